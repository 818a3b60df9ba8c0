-- Written by myprint.py (the prover's own turn of the printer); not trusted: Lean checks it.
import Derived.Test.YtohhnblaoihgbaaDoorPScanx0
import Derived.Test.YtohhnblaoihgbaaDoorPScanx6
import Derived.Test.YtohhnblaoihgbaaDoorPScanx15
import Derived.Test.YtohhnblaoihgbaaDoorPScanx16
namespace Go.Proofs.YtohhnblaoihgbaaDoor.PScan
open Go.RowKit Go.Proofs.YtohhnblaoihgbaaDoorW.PrintWords Go.Proofs.YtohhnblaoihgbaaDoorW.PrintLast Go.Proofs.YtohhnblaoihgbaaDoorW.PrintMore
attribute [local go_sem] str_leq op_leq op_gtr op_geq max2_int min2_int max_two min_two max_three min_three max_four min_four   -- for this text's walks alone
set_option linter.unusedVariables false
set_option linter.unusedSimpArgs false

/-! ### recensionlaw6_same: function 15 -/
mutual
def recensionlaw6_same.j0 : Nat → List (S32) → List (S32) → Bool → Option (Bool)
 | 0, _, _, _ => none
 | k + 1, x4, x7, x37 => if x37 = true then (some false) else (recensionlaw6_same.l0 k x4 x7 0)
def recensionlaw6_same.l0 : Nat → List (S32) → List (S32) → Int → Option (Bool)
 | 0, _, _, _ => none
 | k + 1, x4, x7, x9 => if x9 < (x4.length : Int) then (if 0 ≤ x9 then (if x9 < (x7.length : Int) then (if ((rd_T32 x4 x9).f0).toList = ((rd_T32 x7 x9).f0).toList then (if ((rd_T32 x4 x9).f1) = ((rd_T32 x7 x9).f1) then (if ((rd_T32 x4 x9).f2) = ((rd_T32 x7 x9).f2) then (if ((rd_T32 x4 x9).f3) = ((rd_T32 x7 x9).f3) then (recensionlaw6_same.l0 k x4 x7 (wrap64 (x9 + 1))) else (some false)) else (some false)) else (some false)) else (some false)) else (none)) else (none)) else (some true)
end
def recensionlaw6_same.f (k : Nat) (a0 : ByteArray) : Option (Bool) := (scan_Scan.f a0).bind fun bt226 => ((recensionref1_Scan.f k a0).bind fun bt233 => (if bt226.2.2 = bt233.2.2 then ((recensionlaw6_EqTokens.f k bt226.1 bt233.1).bind fun t240 => (if t240 = true then (recensionlaw6_same.j0 k bt226.2.1 bt233.2.1 ((bt226.2.1.length : Int) != (bt233.2.1.length : Int))) else (recensionlaw6_same.j0 k bt226.2.1 bt233.2.1 true))) else (recensionlaw6_same.j0 k bt226.2.1 bt233.2.1 true)))
theorem recensionlaw6_same.mono_l : ∀ k, (∀ y0 y1 y2, LeO (recensionlaw6_same.j0 k y0 y1 y2) (recensionlaw6_same.j0 (k + 1) y0 y1 y2)) ∧ (∀ y0 y1 y2, LeO (recensionlaw6_same.l0 k y0 y1 y2) (recensionlaw6_same.l0 (k + 1) y0 y1 y2))
 | 0 => ⟨fun _ _ _ r h => by simp [recensionlaw6_same.j0] at h, fun _ _ _ r h => by simp [recensionlaw6_same.l0] at h⟩
 | k + 1 => by
  obtain ⟨ih0, ih1⟩ := recensionlaw6_same.mono_l k
  refine ⟨?_, ?_⟩
  ·intro y0 y1 y2
   unfold recensionlaw6_same.j0
   repeat' first
   | (with_reducible exact ih0 _ _ _)
   | (with_reducible exact ih1 _ _ _)
   | (with_reducible exact recensionlaw6_EqTokens.mono _ _ _)
   | (with_reducible exact recensionref1_Scan.mono _ _)
   | (with_reducible exact LeO.refl _)
   | (with_reducible exact LeO.none _)
   | (with_reducible refine LeO.ite ?_ ?_)
   | (with_reducible refine LeO.bind ?_ (fun _ => ?_))
   | exact ih0 _ _ _
   | exact ih1 _ _ _
   | exact recensionlaw6_EqTokens.mono _ _ _
   | exact recensionref1_Scan.mono _ _
   | exact LeO.none _
   | refine LeO.ite ?_ ?_
   | refine LeO.bind ?_ (fun _ => ?_)
  ·intro y0 y1 y2
   unfold recensionlaw6_same.l0
   repeat' first
   | (with_reducible exact ih0 _ _ _)
   | (with_reducible exact ih1 _ _ _)
   | (with_reducible exact recensionlaw6_EqTokens.mono _ _ _)
   | (with_reducible exact recensionref1_Scan.mono _ _)
   | (with_reducible exact LeO.refl _)
   | (with_reducible exact LeO.none _)
   | (with_reducible refine LeO.ite ?_ ?_)
   | (with_reducible refine LeO.bind ?_ (fun _ => ?_))
   | exact ih0 _ _ _
   | exact ih1 _ _ _
   | exact recensionlaw6_EqTokens.mono _ _ _
   | exact recensionref1_Scan.mono _ _
   | exact LeO.none _
   | refine LeO.ite ?_ ?_
   | refine LeO.bind ?_ (fun _ => ?_)
theorem recensionlaw6_same.mono : ∀ a0 k, LeO (recensionlaw6_same.f k a0) (recensionlaw6_same.f (k + 1) a0) := by
 intro a0 k
 obtain ⟨ih0, ih1⟩ := recensionlaw6_same.mono_l k
 unfold recensionlaw6_same.f
 repeat' first
   | (with_reducible exact ih0 _ _ _)
   | (with_reducible exact ih1 _ _ _)
   | (with_reducible exact recensionlaw6_EqTokens.mono _ _ _)
   | (with_reducible exact recensionref1_Scan.mono _ _)
   | (with_reducible exact LeO.refl _)
   | (with_reducible exact LeO.none _)
   | (with_reducible refine LeO.ite ?_ ?_)
   | (with_reducible refine LeO.bind ?_ (fun _ => ?_))
   | exact ih0 _ _ _
   | exact ih1 _ _ _
   | exact recensionlaw6_EqTokens.mono _ _ _
   | exact recensionref1_Scan.mono _ _
   | exact LeO.none _
   | refine LeO.ite ?_ ?_
   | refine LeO.bind ?_ (fun _ => ?_)
set_option maxHeartbeats 8000000 in
set_option maxRecDepth 100000 in
theorem recensionlaw6_same.calls (k : Nat) (a0 : ByteArray) (r : Bool) (w : World) (hT : Aside0 (Tabs w)) (h : recensionlaw6_same.f k a0 = some r) :
  Calls Tryd.prog 15 #[.string a0] w fun e w' => e = .returned (.bool r) ∧ Below w.heap.size w w' := by
 have HB := Aside0.mk (Below.refl w.heap.size w)
 have H : ((scan_Scan.f a0).bind fun bt226 => ((recensionref1_Scan.f k a0).bind fun bt233 => (if bt226.2.2 = bt233.2.2 then ((recensionlaw6_EqTokens.f k bt226.1 bt233.1).bind fun t240 => (if t240 = true then (recensionlaw6_same.j0 k bt226.2.1 bt233.2.1 ((bt226.2.1.length : Int) != (bt233.2.1.length : Int))) else (recensionlaw6_same.j0 k bt226.2.1 bt233.2.1 true))) else (recensionlaw6_same.j0 k bt226.2.1 bt233.2.1 true)))) = some r := h
 clear h
 replace H := Option.bind_eq_some_iff.mp H
 obtain ⟨⟨t226, t227, t228⟩, A20, H⟩ := H
 replace H : ((recensionref1_Scan.f k a0).bind fun bt233 => (if t228 = bt233.2.2 then ((recensionlaw6_EqTokens.f k t226 bt233.1).bind fun t240 => (if t240 = true then (recensionlaw6_same.j0 k t227 bt233.2.1 ((t227.length : Int) != (bt233.2.1.length : Int))) else (recensionlaw6_same.j0 k t227 bt233.2.1 true))) else (recensionlaw6_same.j0 k t227 bt233.2.1 true))) = some r := H
 have A2 := Aside0.mk A20
 clear A20
 replace H := Option.bind_eq_some_iff.mp H
 obtain ⟨⟨t233, t234, t235⟩, A30, H⟩ := H
 replace H : (if t228 = t235 then ((recensionlaw6_EqTokens.f k t226 t233).bind fun t240 => (if t240 = true then (recensionlaw6_same.j0 k t227 t234 ((t227.length : Int) != (t234.length : Int))) else (recensionlaw6_same.j0 k t227 t234 true))) else (recensionlaw6_same.j0 k t227 t234 true)) = some r := H
 have A3 := Aside0.mk A30
 clear A30
 have HC4 := Aside0.mk H
 clear H
 go_enter Tryd.func15, Tryd.ntmps15
 go_upto_region 3 with (first | (go_at_call 14; (with_reducible refine (scan_Scan.calls a0 t226 t227 t228 _ (Aside0.mk (tabs_at hT.out (by repeat (first | (with_reducible first | exact HB.out | apply below_alloc | apply pw_below_drewN | apply below_drew1) | exact HB.out)))) A2.out).mono ?_); rintro e w5 ⟨v229, v231, rfl, ho0, ho1, hb⟩; have n0_ := Aside0.mk (Kd.R_lower ho0 (below_size (by repeat (first | (with_reducible first | exact HB.out | apply below_alloc | apply pw_below_drewN | apply below_drew1) | exact HB.out)))); have n1_ := Aside0.mk (Kd.R_lower ho1 (below_size (by repeat (first | (with_reducible first | exact HB.out | apply below_alloc | apply pw_below_drewN | apply below_drew1) | exact HB.out)))); have n2_ := Aside0.mk (below_step (by repeat (first | (with_reducible first | exact HB.out | apply below_alloc | apply pw_below_drewN | apply below_drew1) | exact HB.out)) hb); clear HB; have HO230 := n0_; have HO232 := n1_; have HB := n2_; clear n0_ n1_ n2_; (try clear hb); (try clear hb2); (try clear hk); (try clear hi); (try clear ho0); (try clear ho1)) | (go_at_call 25; (with_reducible refine (recensionref1_Scan.calls k a0 t233 t234 t235 _ A3.out).mono ?_); rintro e w6 ⟨v236, v238, rfl, ho0, ho1, hb⟩; have n0_ := Aside0.mk (Kd.R_elder' (by (with_reducible repeat (first | apply Kd.R_alloc | apply Kd.R_drewN | apply Kd.R_drew)); exact HO230.out) (Kd.R_base ho0) hb); have n1_ := Aside0.mk (Kd.R_elder' (by (with_reducible repeat (first | apply Kd.R_alloc | apply Kd.R_drewN | apply Kd.R_drew)); exact HO232.out) (Kd.R_base ho1) hb); have n2_ := Aside0.mk (Kd.R_lower (Kd.R_new' ho0 (Kd.R_lt (by (with_reducible repeat (first | apply Kd.R_alloc | apply Kd.R_drewN | apply Kd.R_drew)); exact HO230.out))) (below_size (by repeat (first | (with_reducible first | exact HB.out | apply below_alloc | apply pw_below_drewN | apply below_drew1) | exact HB.out)))); have n3_ := Aside0.mk (Kd.R_lower (Kd.R_new' ho1 (Kd.R_lt (by (with_reducible repeat (first | apply Kd.R_alloc | apply Kd.R_drewN | apply Kd.R_drew)); exact HO232.out))) (below_size (by repeat (first | (with_reducible first | exact HB.out | apply below_alloc | apply pw_below_drewN | apply below_drew1) | exact HB.out)))); have n4_ := Aside0.mk (below_step (by repeat (first | (with_reducible first | exact HB.out | apply below_alloc | apply pw_below_drewN | apply below_drew1) | exact HB.out)) hb); clear HO230; clear HO232; clear HB; have HO230 := n0_; have HO232 := n1_; have HO237 := n2_; have HO239 := n3_; have HB := n4_; clear n0_ n1_ n2_ n3_ n4_; (try clear hb); (try clear hb2); (try clear hk); (try clear hi); (try clear ho0); (try clear ho1)))
 repeat (go_quiet (first | (go_at_call 14; (with_reducible refine (scan_Scan.calls a0 t226 t227 t228 _ (Aside0.mk (tabs_at hT.out (by repeat (first | (with_reducible first | exact HB.out | apply below_alloc | apply pw_below_drewN | apply below_drew1) | exact HB.out)))) A2.out).mono ?_); rintro e w5 ⟨v229, v231, rfl, ho0, ho1, hb⟩; have n0_ := Aside0.mk (Kd.R_lower ho0 (below_size (by repeat (first | (with_reducible first | exact HB.out | apply below_alloc | apply pw_below_drewN | apply below_drew1) | exact HB.out)))); have n1_ := Aside0.mk (Kd.R_lower ho1 (below_size (by repeat (first | (with_reducible first | exact HB.out | apply below_alloc | apply pw_below_drewN | apply below_drew1) | exact HB.out)))); have n2_ := Aside0.mk (below_step (by repeat (first | (with_reducible first | exact HB.out | apply below_alloc | apply pw_below_drewN | apply below_drew1) | exact HB.out)) hb); clear HB; have HO230 := n0_; have HO232 := n1_; have HB := n2_; clear n0_ n1_ n2_; (try clear hb); (try clear hb2); (try clear hk); (try clear hi); (try clear ho0); (try clear ho1)) | (go_at_call 25; (with_reducible refine (recensionref1_Scan.calls k a0 t233 t234 t235 _ A3.out).mono ?_); rintro e w6 ⟨v236, v238, rfl, ho0, ho1, hb⟩; have n0_ := Aside0.mk (Kd.R_elder' (by (with_reducible repeat (first | apply Kd.R_alloc | apply Kd.R_drewN | apply Kd.R_drew)); exact HO230.out) (Kd.R_base ho0) hb); have n1_ := Aside0.mk (Kd.R_elder' (by (with_reducible repeat (first | apply Kd.R_alloc | apply Kd.R_drewN | apply Kd.R_drew)); exact HO232.out) (Kd.R_base ho1) hb); have n2_ := Aside0.mk (Kd.R_lower (Kd.R_new' ho0 (Kd.R_lt (by (with_reducible repeat (first | apply Kd.R_alloc | apply Kd.R_drewN | apply Kd.R_drew)); exact HO230.out))) (below_size (by repeat (first | (with_reducible first | exact HB.out | apply below_alloc | apply pw_below_drewN | apply below_drew1) | exact HB.out)))); have n3_ := Aside0.mk (Kd.R_lower (Kd.R_new' ho1 (Kd.R_lt (by (with_reducible repeat (first | apply Kd.R_alloc | apply Kd.R_drewN | apply Kd.R_drew)); exact HO232.out))) (below_size (by repeat (first | (with_reducible first | exact HB.out | apply below_alloc | apply pw_below_drewN | apply below_drew1) | exact HB.out)))); have n4_ := Aside0.mk (below_step (by repeat (first | (with_reducible first | exact HB.out | apply below_alloc | apply pw_below_drewN | apply below_drew1) | exact HB.out)) hb); clear HO230; clear HO232; clear HB; have HO230 := n0_; have HO232 := n1_; have HO237 := n2_; have HO239 := n3_; have HB := n4_; clear n0_ n1_ n2_ n3_ n4_; (try clear hb); (try clear hb2); (try clear hk); (try clear hi); (try clear ho0); (try clear ho1))); go_upto_region 3 with (first | (go_at_call 14; (with_reducible refine (scan_Scan.calls a0 t226 t227 t228 _ (Aside0.mk (tabs_at hT.out (by repeat (first | (with_reducible first | exact HB.out | apply below_alloc | apply pw_below_drewN | apply below_drew1) | exact HB.out)))) A2.out).mono ?_); rintro e w5 ⟨v229, v231, rfl, ho0, ho1, hb⟩; have n0_ := Aside0.mk (Kd.R_lower ho0 (below_size (by repeat (first | (with_reducible first | exact HB.out | apply below_alloc | apply pw_below_drewN | apply below_drew1) | exact HB.out)))); have n1_ := Aside0.mk (Kd.R_lower ho1 (below_size (by repeat (first | (with_reducible first | exact HB.out | apply below_alloc | apply pw_below_drewN | apply below_drew1) | exact HB.out)))); have n2_ := Aside0.mk (below_step (by repeat (first | (with_reducible first | exact HB.out | apply below_alloc | apply pw_below_drewN | apply below_drew1) | exact HB.out)) hb); clear HB; have HO230 := n0_; have HO232 := n1_; have HB := n2_; clear n0_ n1_ n2_; (try clear hb); (try clear hb2); (try clear hk); (try clear hi); (try clear ho0); (try clear ho1)) | (go_at_call 25; (with_reducible refine (recensionref1_Scan.calls k a0 t233 t234 t235 _ A3.out).mono ?_); rintro e w6 ⟨v236, v238, rfl, ho0, ho1, hb⟩; have n0_ := Aside0.mk (Kd.R_elder' (by (with_reducible repeat (first | apply Kd.R_alloc | apply Kd.R_drewN | apply Kd.R_drew)); exact HO230.out) (Kd.R_base ho0) hb); have n1_ := Aside0.mk (Kd.R_elder' (by (with_reducible repeat (first | apply Kd.R_alloc | apply Kd.R_drewN | apply Kd.R_drew)); exact HO232.out) (Kd.R_base ho1) hb); have n2_ := Aside0.mk (Kd.R_lower (Kd.R_new' ho0 (Kd.R_lt (by (with_reducible repeat (first | apply Kd.R_alloc | apply Kd.R_drewN | apply Kd.R_drew)); exact HO230.out))) (below_size (by repeat (first | (with_reducible first | exact HB.out | apply below_alloc | apply pw_below_drewN | apply below_drew1) | exact HB.out)))); have n3_ := Aside0.mk (Kd.R_lower (Kd.R_new' ho1 (Kd.R_lt (by (with_reducible repeat (first | apply Kd.R_alloc | apply Kd.R_drewN | apply Kd.R_drew)); exact HO232.out))) (below_size (by repeat (first | (with_reducible first | exact HB.out | apply below_alloc | apply pw_below_drewN | apply below_drew1) | exact HB.out)))); have n4_ := Aside0.mk (below_step (by repeat (first | (with_reducible first | exact HB.out | apply below_alloc | apply pw_below_drewN | apply below_drew1) | exact HB.out)) hb); clear HO230; clear HO232; clear HB; have HO230 := n0_; have HO232 := n1_; have HO237 := n2_; have HO239 := n3_; have HB := n4_; clear n0_ n1_ n2_ n3_ n4_; (try clear hb); (try clear hb2); (try clear hk); (try clear hi); (try clear ho0); (try clear ho1))))
 (try simp only [Act.put, List.setIfInBounds_toArray, List.set_cons_zero, List.set_cons_succ])
 go_cut [37] (fun v37 wc => ∃ (kq : Nat) (x37_3 : Bool), v37 = .bool x37_3 ∧ Aside0 (recensionlaw6_same.j0 kq t227 t234 x37_3 = some r) ∧ Aside0 (kq ≤ k) ∧ Aside0 (Kd.R k32 32 wc w.heap.size (fun k_ => some k_ ≠ (v238 : Value).ownBlock) v231 t227) ∧ Aside0 (Kd.R k32 32 wc w.heap.size (fun k_ => some k_ ≠ (v231 : Value).ownBlock) v238 t234) ∧ Aside0 (Below w.heap.size w wc))
 case first =>
  have H := HC4.out
  clear HC4
  by_cases c7 : t228 = t235
  ·rw [if_pos c7] at H
   have c7b0 : (t228 == t235) = true := beq_iff_eq.mpr c7
   have c7b1 : (t228 != t235) = false := bne_eq_false_iff_eq.mpr c7
   clear c7
   (first | rw [c7b0] | (simp only [i64_w, i32_w]; rw [c7b0]) | skip)
   replace H := Option.bind_eq_some_iff.mp H
   obtain ⟨t240, A80, H⟩ := H
   replace H : (if t240 = true then (recensionlaw6_same.j0 k t227 t234 ((t227.length : Int) != (t234.length : Int))) else (recensionlaw6_same.j0 k t227 t234 true)) = some r := H
   have A8 := Aside0.mk A80
   clear A80
   by_cases c9 : t240 = true
   ·subst c9
    have H1 : (recensionlaw6_same.j0 k t227 t234 ((t227.length : Int) != (t234.length : Int))) = some r := by rw [if_pos rfl] at H; exact H
    clear H
    have H := H1
    clear H1
    have H' := Aside0.mk H
    clear H
    obtain ⟨Ao10, co10, eo10⟩ := Kd.R_slice HO230.out
    subst eo10
    obtain ⟨Ao11, co11, eo11⟩ := Kd.R_slice HO237.out
    subst eo11
    go_wp2_with (first | (go_at_call 26; (with_reducible refine (recensionlaw6_EqTokens.calls k _ _ t226 _ _ t233 true _ ?side1 ?side2 ?side3 ?side4 A8.out).mono ?_); (case side1 => repeat (first | exact (Kd.R_reads' HO230.out).2.2 | (with_reducible refine Kd.C_alloc ?_ _) | (with_reducible refine Kd.C_drewN ?_ _) | (with_reducible refine Kd.C_drew ?_))); (case side2 => exact (Kd.R_reads' HO230.out).2.1); (case side3 => repeat (first | exact (Kd.R_reads' HO237.out).2.2 | (with_reducible refine Kd.C_alloc ?_ _) | (with_reducible refine Kd.C_drewN ?_ _) | (with_reducible refine Kd.C_drew ?_))); (case side4 => exact (Kd.R_reads' HO237.out).2.1); rintro e w' ⟨rfl, ⟨nd, rfl⟩⟩; (try first | exact ⟨rfl, _, World.drewN_drewN _ _ _⟩ | exact ⟨rfl, _, Eq.trans (World.drewN_drewN _ _ _) (congrArg (World.drewN _) (Nat.add_assoc _ _ _))⟩); obtain ⟨Ao12, co12, eo12⟩ := Kd.R_slice HO232.out; subst eo12; obtain ⟨Ao13, co13, eo13⟩ := Kd.R_slice HO239.out; subst eo13))
    repeat (go_quiet (first | (go_at_call 26; (with_reducible refine (recensionlaw6_EqTokens.calls k _ _ t226 _ _ t233 true _ ?side1 ?side2 ?side3 ?side4 A8.out).mono ?_); (case side1 => repeat (first | exact (Kd.R_reads' HO230.out).2.2 | (with_reducible refine Kd.C_alloc ?_ _) | (with_reducible refine Kd.C_drewN ?_ _) | (with_reducible refine Kd.C_drew ?_))); (case side2 => exact (Kd.R_reads' HO230.out).2.1); (case side3 => repeat (first | exact (Kd.R_reads' HO237.out).2.2 | (with_reducible refine Kd.C_alloc ?_ _) | (with_reducible refine Kd.C_drewN ?_ _) | (with_reducible refine Kd.C_drew ?_))); (case side4 => exact (Kd.R_reads' HO237.out).2.1); rintro e w' ⟨rfl, ⟨nd, rfl⟩⟩; (try first | exact ⟨rfl, _, World.drewN_drewN _ _ _⟩ | exact ⟨rfl, _, Eq.trans (World.drewN_drewN _ _ _) (congrArg (World.drewN _) (Nat.add_assoc _ _ _))⟩); obtain ⟨Ao12, co12, eo12⟩ := Kd.R_slice HO232.out; subst eo12; obtain ⟨Ao13, co13, eo13⟩ := Kd.R_slice HO239.out; subst eo13)); try go_wp2_with (first | (go_at_call 26; (with_reducible refine (recensionlaw6_EqTokens.calls k _ _ t226 _ _ t233 true _ ?side1 ?side2 ?side3 ?side4 A8.out).mono ?_); (case side1 => repeat (first | exact (Kd.R_reads' HO230.out).2.2 | (with_reducible refine Kd.C_alloc ?_ _) | (with_reducible refine Kd.C_drewN ?_ _) | (with_reducible refine Kd.C_drew ?_))); (case side2 => exact (Kd.R_reads' HO230.out).2.1); (case side3 => repeat (first | exact (Kd.R_reads' HO237.out).2.2 | (with_reducible refine Kd.C_alloc ?_ _) | (with_reducible refine Kd.C_drewN ?_ _) | (with_reducible refine Kd.C_drew ?_))); (case side4 => exact (Kd.R_reads' HO237.out).2.1); rintro e w' ⟨rfl, ⟨nd, rfl⟩⟩; (try first | exact ⟨rfl, _, World.drewN_drewN _ _ _⟩ | exact ⟨rfl, _, Eq.trans (World.drewN_drewN _ _ _) (congrArg (World.drewN _) (Nat.add_assoc _ _ _))⟩); obtain ⟨Ao12, co12, eo12⟩ := Kd.R_slice HO232.out; subst eo12; obtain ⟨Ao13, co13, eo13⟩ := Kd.R_slice HO239.out; subst eo13)))
    go_meet
    case rel => exact ⟨_, (((t227.length : Int) != (t234.length : Int))), (by first | rfl | (simp; done) | (simp [*]; done)), H', ⟨by first | omega | exact Nat.le_refl _⟩, ⟨by (with_reducible repeat (first | apply Kd.R_alloc | apply Kd.R_drewN | apply Kd.R_drew)); exact Kd.R_mono HO232.out (fun _ hk => by first | exact hk.2 | ((try simp only [and_assoc] at hk); (try simp only [and_assoc]); exact hk))⟩, ⟨by (with_reducible repeat (first | apply Kd.R_alloc | apply Kd.R_drewN | apply Kd.R_drew)); exact Kd.R_mono HO239.out (fun _ hk => by first | exact hk.2 | ((try simp only [and_assoc] at hk); (try simp only [and_assoc]); exact hk))⟩, ⟨by repeat (first | (with_reducible first | exact HB.out | apply below_alloc | apply pw_below_drewN | apply below_drew1) | exact HB.out)⟩⟩
   ·replace c9 := Bool.eq_false_iff.mpr c9
    subst c9
    have H1 : (recensionlaw6_same.j0 k t227 t234 true) = some r := by rw [if_neg (show ¬ (false = true) by decide)] at H; exact H
    clear H
    have H := H1
    clear H1
    have H' := Aside0.mk H
    clear H
    obtain ⟨Ao14, co14, eo14⟩ := Kd.R_slice HO230.out
    subst eo14
    obtain ⟨Ao15, co15, eo15⟩ := Kd.R_slice HO237.out
    subst eo15
    go_wp2_with (first | (go_at_call 26; (with_reducible refine (recensionlaw6_EqTokens.calls k _ _ t226 _ _ t233 false _ ?side1 ?side2 ?side3 ?side4 A8.out).mono ?_); (case side1 => repeat (first | exact (Kd.R_reads' HO230.out).2.2 | (with_reducible refine Kd.C_alloc ?_ _) | (with_reducible refine Kd.C_drewN ?_ _) | (with_reducible refine Kd.C_drew ?_))); (case side2 => exact (Kd.R_reads' HO230.out).2.1); (case side3 => repeat (first | exact (Kd.R_reads' HO237.out).2.2 | (with_reducible refine Kd.C_alloc ?_ _) | (with_reducible refine Kd.C_drewN ?_ _) | (with_reducible refine Kd.C_drew ?_))); (case side4 => exact (Kd.R_reads' HO237.out).2.1); rintro e w' ⟨rfl, ⟨nd, rfl⟩⟩; (try first | exact ⟨rfl, _, World.drewN_drewN _ _ _⟩ | exact ⟨rfl, _, Eq.trans (World.drewN_drewN _ _ _) (congrArg (World.drewN _) (Nat.add_assoc _ _ _))⟩)))
    repeat (go_quiet (first | (go_at_call 26; (with_reducible refine (recensionlaw6_EqTokens.calls k _ _ t226 _ _ t233 false _ ?side1 ?side2 ?side3 ?side4 A8.out).mono ?_); (case side1 => repeat (first | exact (Kd.R_reads' HO230.out).2.2 | (with_reducible refine Kd.C_alloc ?_ _) | (with_reducible refine Kd.C_drewN ?_ _) | (with_reducible refine Kd.C_drew ?_))); (case side2 => exact (Kd.R_reads' HO230.out).2.1); (case side3 => repeat (first | exact (Kd.R_reads' HO237.out).2.2 | (with_reducible refine Kd.C_alloc ?_ _) | (with_reducible refine Kd.C_drewN ?_ _) | (with_reducible refine Kd.C_drew ?_))); (case side4 => exact (Kd.R_reads' HO237.out).2.1); rintro e w' ⟨rfl, ⟨nd, rfl⟩⟩; (try first | exact ⟨rfl, _, World.drewN_drewN _ _ _⟩ | exact ⟨rfl, _, Eq.trans (World.drewN_drewN _ _ _) (congrArg (World.drewN _) (Nat.add_assoc _ _ _))⟩))); try go_wp2_with (first | (go_at_call 26; (with_reducible refine (recensionlaw6_EqTokens.calls k _ _ t226 _ _ t233 false _ ?side1 ?side2 ?side3 ?side4 A8.out).mono ?_); (case side1 => repeat (first | exact (Kd.R_reads' HO230.out).2.2 | (with_reducible refine Kd.C_alloc ?_ _) | (with_reducible refine Kd.C_drewN ?_ _) | (with_reducible refine Kd.C_drew ?_))); (case side2 => exact (Kd.R_reads' HO230.out).2.1); (case side3 => repeat (first | exact (Kd.R_reads' HO237.out).2.2 | (with_reducible refine Kd.C_alloc ?_ _) | (with_reducible refine Kd.C_drewN ?_ _) | (with_reducible refine Kd.C_drew ?_))); (case side4 => exact (Kd.R_reads' HO237.out).2.1); rintro e w' ⟨rfl, ⟨nd, rfl⟩⟩; (try first | exact ⟨rfl, _, World.drewN_drewN _ _ _⟩ | exact ⟨rfl, _, Eq.trans (World.drewN_drewN _ _ _) (congrArg (World.drewN _) (Nat.add_assoc _ _ _))⟩))))
    go_meet
    case rel => exact ⟨_, (true), (by first | rfl | (simp; done) | (simp [*]; done)), H', ⟨by first | omega | exact Nat.le_refl _⟩, ⟨by (with_reducible repeat (first | apply Kd.R_alloc | apply Kd.R_drewN | apply Kd.R_drew)); exact Kd.R_mono HO232.out (fun _ hk => by first | exact hk.2 | ((try simp only [and_assoc] at hk); (try simp only [and_assoc]); exact hk))⟩, ⟨by (with_reducible repeat (first | apply Kd.R_alloc | apply Kd.R_drewN | apply Kd.R_drew)); exact Kd.R_mono HO239.out (fun _ hk => by first | exact hk.2 | ((try simp only [and_assoc] at hk); (try simp only [and_assoc]); exact hk))⟩, ⟨by repeat (first | (with_reducible first | exact HB.out | apply below_alloc | apply pw_below_drewN | apply below_drew1) | exact HB.out)⟩⟩
  ·rw [if_neg c7] at H
   have c7b0 : (t228 == t235) = false := beq_eq_false_iff_ne.mpr c7
   have c7b1 : (t228 != t235) = true := bne_iff_ne.mpr c7
   (first | rw [c7b0] | (simp only [i64_w, i32_w]; rw [c7b0]) | skip)
   have H' := Aside0.mk H
   clear H
   go_wp2
   repeat (go_quiet (fail); try go_wp2)
   go_meet
   case rel => exact ⟨_, (true), (by first | rfl | (simp; done) | (simp [*]; done)), H', ⟨by first | omega | exact Nat.le_refl _⟩, ⟨by (with_reducible repeat (first | apply Kd.R_alloc | apply Kd.R_drewN | apply Kd.R_drew)); exact Kd.R_mono HO232.out (fun _ hk => by first | exact hk.2 | ((try simp only [and_assoc] at hk); (try simp only [and_assoc]); exact hk))⟩, ⟨by (with_reducible repeat (first | apply Kd.R_alloc | apply Kd.R_drewN | apply Kd.R_drew)); exact Kd.R_mono HO239.out (fun _ hk => by first | exact hk.2 | ((try simp only [and_assoc] at hk); (try simp only [and_assoc]); exact hk))⟩, ⟨by repeat (first | (with_reducible first | exact HB.out | apply below_alloc | apply pw_below_drewN | apply below_drew1) | exact HB.out)⟩⟩
 case rest =>
  clear HC4
  try clear c1
  try clear p2
  try clear c7
  try clear c7b0
  try clear c7b1
  try clear c9
  try clear c15
  obtain ⟨kq, x37_3, rfl, HA, HJ3, HO_4, HO_7, HB⟩ := hcut
  cases kq with
  | zero => exact absurd HA.out (by simp [recensionlaw6_same.j0])
  | succ kj3 =>
   have H := HA.out
   clear HA
   simp only [recensionlaw6_same.j0] at H
   by_cases c16 : x37_3 = true
   ·subst c16
    have H1 : (some false) = some r := by rw [if_pos rfl] at H; exact H
    clear H
    have H := H1
    clear H1
    obtain rfl := Option.some.inj H
    go_wp2
    repeat (go_quiet (fail); try go_wp2)
    go_ret
    exact ⟨by first | rfl | (simp [errW_none, errW_some] <;> rfl) | (simp [*, errW_none, errW_some] <;> rfl), by repeat (first | (with_reducible first | exact HB.out | apply below_alloc | apply pw_below_drewN | apply below_drew1) | exact HB.out)⟩
   ·replace c16 := Bool.eq_false_iff.mpr c16
    subst c16
    have H1 : (recensionlaw6_same.l0 kj3 t227 t234 0) = some r := by rw [if_neg (show ¬ (false = true) by decide)] at H; exact H
    clear H
    have H := H1
    clear H1
    have H' := Aside0.mk H
    clear H
    go_wp2
    repeat (go_quiet (fail); try go_wp2)
    go_loopg [9] kj3 (fun kq v9 w' => ∃ (x9_2 : Int), v9 = .int .i64 x9_2 ∧ Aside0 (recensionlaw6_same.l0 kq t227 t234 x9_2 = some r) ∧ Aside0 (kq ≤ kj3) ∧ Aside0 (Kd.R k32 32 w' w.heap.size (fun k_ => some k_ ≠ (v238 : Value).ownBlock) v231 t227) ∧ Aside0 (Kd.R k32 32 w' w.heap.size (fun k_ => some k_ ≠ (v231 : Value).ownBlock) v238 t234) ∧ Aside0 (Below w.heap.size w w'))
    case atStart => exact ⟨(0), (by first | rfl | (simp; done) | (simp [*]; done)), H', ⟨Nat.le_refl _⟩, ⟨by (with_reducible repeat (first | apply Kd.R_alloc | apply Kd.R_drewN | apply Kd.R_drew)); exact HO_4.out⟩, ⟨by (with_reducible repeat (first | apply Kd.R_alloc | apply Kd.R_drewN | apply Kd.R_drew)); exact HO_7.out⟩, ⟨by repeat (first | (with_reducible first | exact HB.out | apply below_alloc | apply pw_below_drewN | apply below_drew1) | exact HB.out)⟩⟩
    case round =>
     clear H'
     try clear c1
     try clear p2
     try clear c7
     try clear c7b0
     try clear c7b1
     try clear c9
     try clear c15
     try clear c16
     try clear p2
     obtain ⟨x9_2, rfl, HA, HK2, HO_4, HO_7, HB⟩ := hrel
     cases gk with
     | zero => exact absurd HA.out (by simp [recensionlaw6_same.l0])
     | succ k2 =>
      have H := HA.out
      clear HA
      simp only [recensionlaw6_same.l0] at H
      by_cases c17 : x9_2 < (t227.length : Int)
      ·rw [if_pos c17] at H
       have c17b0 : decide (x9_2 < (t227.length : Int)) = true := decide_eq_true c17
       clear c17
       by_cases c18 : 0 ≤ x9_2
       ·rw [if_pos c18] at H
        have c18b0 : decide (0 ≤ x9_2) = true := decide_eq_true c18
        clear c18
        by_cases c19 : x9_2 < (t234.length : Int)
        ·rw [if_pos c19] at H
         have c19b0 : decide (x9_2 < (t234.length : Int)) = true := decide_eq_true c19
         clear c19
         by_cases c20 : ((rd_T32 t227 x9_2).f0).toList = ((rd_T32 t234 x9_2).f0).toList
         ·rw [if_pos c20] at H
          have c20b0 : (((rd_T32 t227 x9_2).f0).toList == ((rd_T32 t234 x9_2).f0).toList) = true := beq_iff_eq.mpr c20
          have c20b1 : (((rd_T32 t227 x9_2).f0).toList != ((rd_T32 t234 x9_2).f0).toList) = false := bne_eq_false_iff_eq.mpr c20
          clear c20
          by_cases c21 : ((rd_T32 t227 x9_2).f1) = ((rd_T32 t234 x9_2).f1)
          ·rw [if_pos c21] at H
           have c21b0 : (((rd_T32 t227 x9_2).f1) == ((rd_T32 t234 x9_2).f1)) = true := beq_iff_eq.mpr c21
           have c21b1 : (((rd_T32 t227 x9_2).f1) != ((rd_T32 t234 x9_2).f1)) = false := bne_eq_false_iff_eq.mpr c21
           clear c21
           by_cases c22 : ((rd_T32 t227 x9_2).f2) = ((rd_T32 t234 x9_2).f2)
           ·rw [if_pos c22] at H
            have c22b0 : (((rd_T32 t227 x9_2).f2) == ((rd_T32 t234 x9_2).f2)) = true := beq_iff_eq.mpr c22
            have c22b1 : (((rd_T32 t227 x9_2).f2) != ((rd_T32 t234 x9_2).f2)) = false := bne_eq_false_iff_eq.mpr c22
            clear c22
            by_cases c23 : ((rd_T32 t227 x9_2).f3) = ((rd_T32 t234 x9_2).f3)
            ·rw [if_pos c23] at H
             have c23b0 : (((rd_T32 t227 x9_2).f3) == ((rd_T32 t234 x9_2).f3)) = true := beq_iff_eq.mpr c23
             have c23b1 : (((rd_T32 t227 x9_2).f3) != ((rd_T32 t234 x9_2).f3)) = false := bne_eq_false_iff_eq.mpr c23
             clear c23
             have H' := Aside0.mk H
             clear H
             obtain ⟨Ao24, co24, eo24⟩ := Kd.R_slice HO_4.out
             subst eo24
             have p241 : 0 ≤ (x9_2 : Int) := of_decide_eq_true (by first | (with_reducible assumption) | assumption)
             have q241 : x9_2 < (t227.length : Int) := of_decide_eq_true (by first | (with_reducible assumption) | assumption)
             obtain ⟨ad241, e241, hx241_0, hx241_1, hx241_2, hx241_3⟩ := at_T32 (Kd.R_reads' HO_4.out).2.2 x9_2 p241 q241
             cases e241
             replace p241 := eq_true p241
             replace q241 := eq_true q241
             obtain ⟨Ao25, co25, eo25⟩ := Kd.R_slice HO_7.out
             subst eo25
             have p242 : 0 ≤ (x9_2 : Int) := of_decide_eq_true (by first | (with_reducible assumption) | assumption)
             have q242 : x9_2 < (t234.length : Int) := of_decide_eq_true (by first | (with_reducible assumption) | assumption)
             obtain ⟨ad242, e242, hx242_0, hx242_1, hx242_2, hx242_3⟩ := at_T32 (Kd.R_reads' HO_7.out).2.2 x9_2 p242 q242
             cases e242
             replace p242 := eq_true p242
             replace q242 := eq_true q242
             have p243 : 0 ≤ (x9_2 : Int) := of_decide_eq_true (by first | (with_reducible assumption) | assumption)
             have q243 : x9_2 < (t227.length : Int) := of_decide_eq_true (by first | (with_reducible assumption) | assumption)
             obtain ⟨ad243, e243, hx243_0, hx243_1, hx243_2, hx243_3⟩ := at_T32 (Kd.R_reads' HO_4.out).2.2 x9_2 p243 q243
             obtain rfl : ad241 = ad243 := (by injection e243)
             replace p243 := eq_true p243
             replace q243 := eq_true q243
             have p244 : 0 ≤ (x9_2 : Int) := of_decide_eq_true (by first | (with_reducible assumption) | assumption)
             have q244 : x9_2 < (t234.length : Int) := of_decide_eq_true (by first | (with_reducible assumption) | assumption)
             obtain ⟨ad244, e244, hx244_0, hx244_1, hx244_2, hx244_3⟩ := at_T32 (Kd.R_reads' HO_7.out).2.2 x9_2 p244 q244
             obtain rfl : ad242 = ad244 := (by injection e244)
             replace p244 := eq_true p244
             replace q244 := eq_true q244
             have p245 : 0 ≤ (x9_2 : Int) := of_decide_eq_true (by first | (with_reducible assumption) | assumption)
             have q245 : x9_2 < (t227.length : Int) := of_decide_eq_true (by first | (with_reducible assumption) | assumption)
             obtain ⟨ad245, e245, hx245_0, hx245_1, hx245_2, hx245_3⟩ := at_T32 (Kd.R_reads' HO_4.out).2.2 x9_2 p245 q245
             obtain rfl : ad241 = ad245 := (by injection e245)
             replace p245 := eq_true p245
             replace q245 := eq_true q245
             have p246 : 0 ≤ (x9_2 : Int) := of_decide_eq_true (by first | (with_reducible assumption) | assumption)
             have q246 : x9_2 < (t234.length : Int) := of_decide_eq_true (by first | (with_reducible assumption) | assumption)
             obtain ⟨ad246, e246, hx246_0, hx246_1, hx246_2, hx246_3⟩ := at_T32 (Kd.R_reads' HO_7.out).2.2 x9_2 p246 q246
             obtain rfl : ad242 = ad246 := (by injection e246)
             replace p246 := eq_true p246
             replace q246 := eq_true q246
             have p247 : 0 ≤ (x9_2 : Int) := of_decide_eq_true (by first | (with_reducible assumption) | assumption)
             have q247 : x9_2 < (t227.length : Int) := of_decide_eq_true (by first | (with_reducible assumption) | assumption)
             obtain ⟨ad247, e247, hx247_0, hx247_1, hx247_2, hx247_3⟩ := at_T32 (Kd.R_reads' HO_4.out).2.2 x9_2 p247 q247
             obtain rfl : ad241 = ad247 := (by injection e247)
             replace p247 := eq_true p247
             replace q247 := eq_true q247
             have p248 : 0 ≤ (x9_2 : Int) := of_decide_eq_true (by first | (with_reducible assumption) | assumption)
             have q248 : x9_2 < (t234.length : Int) := of_decide_eq_true (by first | (with_reducible assumption) | assumption)
             obtain ⟨ad248, e248, hx248_0, hx248_1, hx248_2, hx248_3⟩ := at_T32 (Kd.R_reads' HO_7.out).2.2 x9_2 p248 q248
             obtain rfl : ad242 = ad248 := (by injection e248)
             replace p248 := eq_true p248
             replace q248 := eq_true q248
             go_wp2
             repeat (go_quiet (fail); try go_wp2)
             go_roundg k2
             case measure => have := HJ3.out; have := HK2.out; omega
             case rel => exact ⟨(wrap64 (x9_2 + 1)), (by first | rfl | (simp; done) | (simp [*]; done)), H', ⟨by have := HJ3.out; have := HK2.out; omega⟩, ⟨by (with_reducible repeat (first | apply Kd.R_alloc | apply Kd.R_drewN | apply Kd.R_drew)); exact HO_4.out⟩, ⟨by (with_reducible repeat (first | apply Kd.R_alloc | apply Kd.R_drewN | apply Kd.R_drew)); exact HO_7.out⟩, ⟨by repeat (first | (with_reducible first | exact HB.out | apply below_alloc | apply pw_below_drewN | apply below_drew1) | exact HB.out)⟩⟩
            ·rw [if_neg c23] at H
             have c23b0 : (((rd_T32 t227 x9_2).f3) == ((rd_T32 t234 x9_2).f3)) = false := beq_eq_false_iff_ne.mpr c23
             have c23b1 : (((rd_T32 t227 x9_2).f3) != ((rd_T32 t234 x9_2).f3)) = true := bne_iff_ne.mpr c23
             obtain rfl := Option.some.inj H
             obtain ⟨Ao26, co26, eo26⟩ := Kd.R_slice HO_4.out
             subst eo26
             have p241 : 0 ≤ (x9_2 : Int) := of_decide_eq_true (by first | (with_reducible assumption) | assumption)
             have q241 : x9_2 < (t227.length : Int) := of_decide_eq_true (by first | (with_reducible assumption) | assumption)
             obtain ⟨ad241, e241, hx241_0, hx241_1, hx241_2, hx241_3⟩ := at_T32 (Kd.R_reads' HO_4.out).2.2 x9_2 p241 q241
             cases e241
             replace p241 := eq_true p241
             replace q241 := eq_true q241
             obtain ⟨Ao27, co27, eo27⟩ := Kd.R_slice HO_7.out
             subst eo27
             have p242 : 0 ≤ (x9_2 : Int) := of_decide_eq_true (by first | (with_reducible assumption) | assumption)
             have q242 : x9_2 < (t234.length : Int) := of_decide_eq_true (by first | (with_reducible assumption) | assumption)
             obtain ⟨ad242, e242, hx242_0, hx242_1, hx242_2, hx242_3⟩ := at_T32 (Kd.R_reads' HO_7.out).2.2 x9_2 p242 q242
             cases e242
             replace p242 := eq_true p242
             replace q242 := eq_true q242
             have p243 : 0 ≤ (x9_2 : Int) := of_decide_eq_true (by first | (with_reducible assumption) | assumption)
             have q243 : x9_2 < (t227.length : Int) := of_decide_eq_true (by first | (with_reducible assumption) | assumption)
             obtain ⟨ad243, e243, hx243_0, hx243_1, hx243_2, hx243_3⟩ := at_T32 (Kd.R_reads' HO_4.out).2.2 x9_2 p243 q243
             obtain rfl : ad241 = ad243 := (by injection e243)
             replace p243 := eq_true p243
             replace q243 := eq_true q243
             have p244 : 0 ≤ (x9_2 : Int) := of_decide_eq_true (by first | (with_reducible assumption) | assumption)
             have q244 : x9_2 < (t234.length : Int) := of_decide_eq_true (by first | (with_reducible assumption) | assumption)
             obtain ⟨ad244, e244, hx244_0, hx244_1, hx244_2, hx244_3⟩ := at_T32 (Kd.R_reads' HO_7.out).2.2 x9_2 p244 q244
             obtain rfl : ad242 = ad244 := (by injection e244)
             replace p244 := eq_true p244
             replace q244 := eq_true q244
             have p245 : 0 ≤ (x9_2 : Int) := of_decide_eq_true (by first | (with_reducible assumption) | assumption)
             have q245 : x9_2 < (t227.length : Int) := of_decide_eq_true (by first | (with_reducible assumption) | assumption)
             obtain ⟨ad245, e245, hx245_0, hx245_1, hx245_2, hx245_3⟩ := at_T32 (Kd.R_reads' HO_4.out).2.2 x9_2 p245 q245
             obtain rfl : ad241 = ad245 := (by injection e245)
             replace p245 := eq_true p245
             replace q245 := eq_true q245
             have p246 : 0 ≤ (x9_2 : Int) := of_decide_eq_true (by first | (with_reducible assumption) | assumption)
             have q246 : x9_2 < (t234.length : Int) := of_decide_eq_true (by first | (with_reducible assumption) | assumption)
             obtain ⟨ad246, e246, hx246_0, hx246_1, hx246_2, hx246_3⟩ := at_T32 (Kd.R_reads' HO_7.out).2.2 x9_2 p246 q246
             obtain rfl : ad242 = ad246 := (by injection e246)
             replace p246 := eq_true p246
             replace q246 := eq_true q246
             have p247 : 0 ≤ (x9_2 : Int) := of_decide_eq_true (by first | (with_reducible assumption) | assumption)
             have q247 : x9_2 < (t227.length : Int) := of_decide_eq_true (by first | (with_reducible assumption) | assumption)
             obtain ⟨ad247, e247, hx247_0, hx247_1, hx247_2, hx247_3⟩ := at_T32 (Kd.R_reads' HO_4.out).2.2 x9_2 p247 q247
             obtain rfl : ad241 = ad247 := (by injection e247)
             replace p247 := eq_true p247
             replace q247 := eq_true q247
             have p248 : 0 ≤ (x9_2 : Int) := of_decide_eq_true (by first | (with_reducible assumption) | assumption)
             have q248 : x9_2 < (t234.length : Int) := of_decide_eq_true (by first | (with_reducible assumption) | assumption)
             obtain ⟨ad248, e248, hx248_0, hx248_1, hx248_2, hx248_3⟩ := at_T32 (Kd.R_reads' HO_7.out).2.2 x9_2 p248 q248
             obtain rfl : ad242 = ad248 := (by injection e248)
             replace p248 := eq_true p248
             replace q248 := eq_true q248
             go_wp2
             repeat (go_quiet (fail); try go_wp2)
             go_ret
             exact ⟨by first | rfl | (simp [errW_none, errW_some] <;> rfl) | (simp [*, errW_none, errW_some] <;> rfl), by repeat (first | (with_reducible first | exact HB.out | apply below_alloc | apply pw_below_drewN | apply below_drew1) | exact HB.out)⟩
           ·rw [if_neg c22] at H
            have c22b0 : (((rd_T32 t227 x9_2).f2) == ((rd_T32 t234 x9_2).f2)) = false := beq_eq_false_iff_ne.mpr c22
            have c22b1 : (((rd_T32 t227 x9_2).f2) != ((rd_T32 t234 x9_2).f2)) = true := bne_iff_ne.mpr c22
            obtain rfl := Option.some.inj H
            obtain ⟨Ao28, co28, eo28⟩ := Kd.R_slice HO_4.out
            subst eo28
            have p241 : 0 ≤ (x9_2 : Int) := of_decide_eq_true (by first | (with_reducible assumption) | assumption)
            have q241 : x9_2 < (t227.length : Int) := of_decide_eq_true (by first | (with_reducible assumption) | assumption)
            obtain ⟨ad241, e241, hx241_0, hx241_1, hx241_2, hx241_3⟩ := at_T32 (Kd.R_reads' HO_4.out).2.2 x9_2 p241 q241
            cases e241
            replace p241 := eq_true p241
            replace q241 := eq_true q241
            obtain ⟨Ao29, co29, eo29⟩ := Kd.R_slice HO_7.out
            subst eo29
            have p242 : 0 ≤ (x9_2 : Int) := of_decide_eq_true (by first | (with_reducible assumption) | assumption)
            have q242 : x9_2 < (t234.length : Int) := of_decide_eq_true (by first | (with_reducible assumption) | assumption)
            obtain ⟨ad242, e242, hx242_0, hx242_1, hx242_2, hx242_3⟩ := at_T32 (Kd.R_reads' HO_7.out).2.2 x9_2 p242 q242
            cases e242
            replace p242 := eq_true p242
            replace q242 := eq_true q242
            have p243 : 0 ≤ (x9_2 : Int) := of_decide_eq_true (by first | (with_reducible assumption) | assumption)
            have q243 : x9_2 < (t227.length : Int) := of_decide_eq_true (by first | (with_reducible assumption) | assumption)
            obtain ⟨ad243, e243, hx243_0, hx243_1, hx243_2, hx243_3⟩ := at_T32 (Kd.R_reads' HO_4.out).2.2 x9_2 p243 q243
            obtain rfl : ad241 = ad243 := (by injection e243)
            replace p243 := eq_true p243
            replace q243 := eq_true q243
            have p244 : 0 ≤ (x9_2 : Int) := of_decide_eq_true (by first | (with_reducible assumption) | assumption)
            have q244 : x9_2 < (t234.length : Int) := of_decide_eq_true (by first | (with_reducible assumption) | assumption)
            obtain ⟨ad244, e244, hx244_0, hx244_1, hx244_2, hx244_3⟩ := at_T32 (Kd.R_reads' HO_7.out).2.2 x9_2 p244 q244
            obtain rfl : ad242 = ad244 := (by injection e244)
            replace p244 := eq_true p244
            replace q244 := eq_true q244
            have p245 : 0 ≤ (x9_2 : Int) := of_decide_eq_true (by first | (with_reducible assumption) | assumption)
            have q245 : x9_2 < (t227.length : Int) := of_decide_eq_true (by first | (with_reducible assumption) | assumption)
            obtain ⟨ad245, e245, hx245_0, hx245_1, hx245_2, hx245_3⟩ := at_T32 (Kd.R_reads' HO_4.out).2.2 x9_2 p245 q245
            obtain rfl : ad241 = ad245 := (by injection e245)
            replace p245 := eq_true p245
            replace q245 := eq_true q245
            have p246 : 0 ≤ (x9_2 : Int) := of_decide_eq_true (by first | (with_reducible assumption) | assumption)
            have q246 : x9_2 < (t234.length : Int) := of_decide_eq_true (by first | (with_reducible assumption) | assumption)
            obtain ⟨ad246, e246, hx246_0, hx246_1, hx246_2, hx246_3⟩ := at_T32 (Kd.R_reads' HO_7.out).2.2 x9_2 p246 q246
            obtain rfl : ad242 = ad246 := (by injection e246)
            replace p246 := eq_true p246
            replace q246 := eq_true q246
            go_wp2
            repeat (go_quiet (fail); try go_wp2)
            go_ret
            exact ⟨by first | rfl | (simp [errW_none, errW_some] <;> rfl) | (simp [*, errW_none, errW_some] <;> rfl), by repeat (first | (with_reducible first | exact HB.out | apply below_alloc | apply pw_below_drewN | apply below_drew1) | exact HB.out)⟩
          ·rw [if_neg c21] at H
           have c21b0 : (((rd_T32 t227 x9_2).f1) == ((rd_T32 t234 x9_2).f1)) = false := beq_eq_false_iff_ne.mpr c21
           have c21b1 : (((rd_T32 t227 x9_2).f1) != ((rd_T32 t234 x9_2).f1)) = true := bne_iff_ne.mpr c21
           obtain rfl := Option.some.inj H
           obtain ⟨Ao30, co30, eo30⟩ := Kd.R_slice HO_4.out
           subst eo30
           have p241 : 0 ≤ (x9_2 : Int) := of_decide_eq_true (by first | (with_reducible assumption) | assumption)
           have q241 : x9_2 < (t227.length : Int) := of_decide_eq_true (by first | (with_reducible assumption) | assumption)
           obtain ⟨ad241, e241, hx241_0, hx241_1, hx241_2, hx241_3⟩ := at_T32 (Kd.R_reads' HO_4.out).2.2 x9_2 p241 q241
           cases e241
           replace p241 := eq_true p241
           replace q241 := eq_true q241
           obtain ⟨Ao31, co31, eo31⟩ := Kd.R_slice HO_7.out
           subst eo31
           have p242 : 0 ≤ (x9_2 : Int) := of_decide_eq_true (by first | (with_reducible assumption) | assumption)
           have q242 : x9_2 < (t234.length : Int) := of_decide_eq_true (by first | (with_reducible assumption) | assumption)
           obtain ⟨ad242, e242, hx242_0, hx242_1, hx242_2, hx242_3⟩ := at_T32 (Kd.R_reads' HO_7.out).2.2 x9_2 p242 q242
           cases e242
           replace p242 := eq_true p242
           replace q242 := eq_true q242
           have p243 : 0 ≤ (x9_2 : Int) := of_decide_eq_true (by first | (with_reducible assumption) | assumption)
           have q243 : x9_2 < (t227.length : Int) := of_decide_eq_true (by first | (with_reducible assumption) | assumption)
           obtain ⟨ad243, e243, hx243_0, hx243_1, hx243_2, hx243_3⟩ := at_T32 (Kd.R_reads' HO_4.out).2.2 x9_2 p243 q243
           obtain rfl : ad241 = ad243 := (by injection e243)
           replace p243 := eq_true p243
           replace q243 := eq_true q243
           have p244 : 0 ≤ (x9_2 : Int) := of_decide_eq_true (by first | (with_reducible assumption) | assumption)
           have q244 : x9_2 < (t234.length : Int) := of_decide_eq_true (by first | (with_reducible assumption) | assumption)
           obtain ⟨ad244, e244, hx244_0, hx244_1, hx244_2, hx244_3⟩ := at_T32 (Kd.R_reads' HO_7.out).2.2 x9_2 p244 q244
           obtain rfl : ad242 = ad244 := (by injection e244)
           replace p244 := eq_true p244
           replace q244 := eq_true q244
           go_wp2
           repeat (go_quiet (fail); try go_wp2)
           go_ret
           exact ⟨by first | rfl | (simp [errW_none, errW_some] <;> rfl) | (simp [*, errW_none, errW_some] <;> rfl), by repeat (first | (with_reducible first | exact HB.out | apply below_alloc | apply pw_below_drewN | apply below_drew1) | exact HB.out)⟩
         ·rw [if_neg c20] at H
          have c20b0 : (((rd_T32 t227 x9_2).f0).toList == ((rd_T32 t234 x9_2).f0).toList) = false := beq_eq_false_iff_ne.mpr c20
          have c20b1 : (((rd_T32 t227 x9_2).f0).toList != ((rd_T32 t234 x9_2).f0).toList) = true := bne_iff_ne.mpr c20
          obtain rfl := Option.some.inj H
          obtain ⟨Ao32, co32, eo32⟩ := Kd.R_slice HO_4.out
          subst eo32
          have p241 : 0 ≤ (x9_2 : Int) := of_decide_eq_true (by first | (with_reducible assumption) | assumption)
          have q241 : x9_2 < (t227.length : Int) := of_decide_eq_true (by first | (with_reducible assumption) | assumption)
          obtain ⟨ad241, e241, hx241_0, hx241_1, hx241_2, hx241_3⟩ := at_T32 (Kd.R_reads' HO_4.out).2.2 x9_2 p241 q241
          cases e241
          replace p241 := eq_true p241
          replace q241 := eq_true q241
          obtain ⟨Ao33, co33, eo33⟩ := Kd.R_slice HO_7.out
          subst eo33
          have p242 : 0 ≤ (x9_2 : Int) := of_decide_eq_true (by first | (with_reducible assumption) | assumption)
          have q242 : x9_2 < (t234.length : Int) := of_decide_eq_true (by first | (with_reducible assumption) | assumption)
          obtain ⟨ad242, e242, hx242_0, hx242_1, hx242_2, hx242_3⟩ := at_T32 (Kd.R_reads' HO_7.out).2.2 x9_2 p242 q242
          cases e242
          replace p242 := eq_true p242
          replace q242 := eq_true q242
          go_wp2
          repeat (go_quiet (fail); try go_wp2)
          go_ret
          exact ⟨by first | rfl | (simp [errW_none, errW_some] <;> rfl) | (simp [*, errW_none, errW_some] <;> rfl), by repeat (first | (with_reducible first | exact HB.out | apply below_alloc | apply pw_below_drewN | apply below_drew1) | exact HB.out)⟩
        ·rw [if_neg c19] at H
         exact absurd H (by simp)
       ·rw [if_neg c18] at H
        exact absurd H (by simp)
      ·rw [if_neg c17] at H
       have c17b0 : decide (x9_2 < (t227.length : Int)) = false := decide_eq_false c17
       clear c17
       obtain rfl := Option.some.inj H
       obtain ⟨Ao34, co34, eo34⟩ := Kd.R_slice HO_4.out
       subst eo34
       go_wp2
       repeat (go_quiet (fail); try go_wp2)
       go_ret
       exact ⟨by first | rfl | (simp [errW_none, errW_some] <;> rfl) | (simp [*, errW_none, errW_some] <;> rfl), by repeat (first | (with_reducible first | exact HB.out | apply below_alloc | apply pw_below_drewN | apply below_drew1) | exact HB.out)⟩

/-! ### recensionlaw3_Cut: function 16 -/
def recensionlaw3_Cut.f (a0 : ByteArray) (a1 : Int) : Option (ByteArray) := if (a0.size : Int) > a1 then (if 0 ≤ a1 then (if a1 ≤ (a0.size : Int) then (some (a0.extract 0 (a1 : Int).toNat)) else (none)) else (none)) else (some a0)
set_option maxHeartbeats 8000000 in
set_option maxRecDepth 100000 in
theorem recensionlaw3_Cut.calls (a0 : ByteArray) (a1 : Int) (r : ByteArray) (w : World) (h : recensionlaw3_Cut.f a0 a1 = some r) :
  Calls Tryd.prog 16 #[.string a0, .int .i64 a1] w fun e w' => e = .returned (.string r) ∧ Drawn0 w w' := by
 have H : (if (a0.size : Int) > a1 then (if 0 ≤ a1 then (if a1 ≤ (a0.size : Int) then (some (a0.extract 0 (a1 : Int).toNat)) else (none)) else (none)) else (some a0)) = some r := h
 clear h
 by_cases c3 : (a0.size : Int) > a1
 ·rw [if_pos c3] at H
  have c3b0 : decide (a1 < (a0.size : Int)) = true := decide_eq_true c3
  clear c3
  by_cases c4 : 0 ≤ a1
  ·rw [if_pos c4] at H
   have c4b0 := eq_true c4
   have c4b1 : decide (0 ≤ a1) = true := decide_eq_true c4
   clear c4
   by_cases c5 : a1 ≤ (a0.size : Int)
   ·rw [if_pos c5] at H
    have c5b0 := eq_true c5
    have c5b1 : decide (a1 ≤ (a0.size : Int)) = true := decide_eq_true c5
    clear c5
    obtain rfl := Option.some.inj H
    go_enter Tryd.func16, Tryd.ntmps16
    go_wp2
    go_ret
    exact ⟨by first | rfl | (simp; done) | (simp [*]; done), by repeat (first | exact Drawn0.refl _ | apply Drawn0.step)⟩
   ·rw [if_neg c5] at H
    exact absurd H (by simp)
  ·rw [if_neg c4] at H
   exact absurd H (by simp)
 ·rw [if_neg c3] at H
  have c3b0 : decide (a1 < (a0.size : Int)) = false := decide_eq_false c3
  clear c3
  obtain rfl := Option.some.inj H
  go_enter Tryd.func16, Tryd.ntmps16
  go_wp2
  go_ret
  exact ⟨by first | rfl | (simp; done) | (simp [*]; done), by repeat (first | exact Drawn0.refl _ | apply Drawn0.step)⟩

/-! ### recensionlaw6_ScanAll: function 5 -/
def recensionlaw6_ScanAll.f (k : Nat) (a0 : ByteArray) : Option (Bool) := (recensionlaw6_begun.f).bind fun t249 => (if t249 = true then ((recensionlaw3_Cut.f a0 2010).bind fun t250 => ((recensionlaw6_same.f k t250).bind fun t251 => (some t251))) else (some false))
theorem recensionlaw6_ScanAll.mono : ∀ a0 k, LeO (recensionlaw6_ScanAll.f k a0) (recensionlaw6_ScanAll.f (k + 1) a0) := by
 intro a0 k
 unfold recensionlaw6_ScanAll.f
 repeat' first
   | (with_reducible exact recensionlaw6_same.mono _ _)
   | (with_reducible exact LeO.refl _)
   | (with_reducible exact LeO.none _)
   | (with_reducible refine LeO.ite ?_ ?_)
   | (with_reducible refine LeO.bind ?_ (fun _ => ?_))
   | exact recensionlaw6_same.mono _ _
   | exact LeO.none _
   | refine LeO.ite ?_ ?_
   | refine LeO.bind ?_ (fun _ => ?_)
set_option maxHeartbeats 8000000 in
set_option maxRecDepth 100000 in
theorem recensionlaw6_ScanAll.calls (k : Nat) (a0 : ByteArray) (r : Bool) (w : World) (hrt : Aside0 (r = true)) (hT : Aside0 (Tabs w)) (h : recensionlaw6_ScanAll.f k a0 = some r) :
  Calls Tryd.prog 5 #[.string a0] w fun e w' => e = .returned (.bool r) ∧ Below w.heap.size w w' := by
 have HB := Aside0.mk (Below.refl w.heap.size w)
 have H : ((recensionlaw6_begun.f).bind fun t249 => (if t249 = true then ((recensionlaw3_Cut.f a0 2010).bind fun t250 => ((recensionlaw6_same.f k t250).bind fun t251 => (some t251))) else (some false))) = some r := h
 clear h
 replace H := Option.bind_eq_some_iff.mp H
 obtain ⟨t249, A20, H⟩ := H
 replace H : (if t249 = true then ((recensionlaw3_Cut.f a0 2010).bind fun t250 => ((recensionlaw6_same.f k t250).bind fun t251 => (some t251))) else (some false)) = some r := H
 have A2 := Aside0.mk A20
 clear A20
 by_cases c3 : t249 = true
 ·subst c3
  have H1 : ((recensionlaw3_Cut.f a0 2010).bind fun t250 => ((recensionlaw6_same.f k t250).bind fun t251 => (some t251))) = some r := by rw [if_pos rfl] at H; exact H
  clear H
  have H := H1
  clear H1
  replace H := Option.bind_eq_some_iff.mp H
  obtain ⟨t250, A40, H⟩ := H
  replace H : ((recensionlaw6_same.f k t250).bind fun t251 => (some t251)) = some r := H
  have A4 := Aside0.mk A40
  clear A40
  replace H := Option.bind_eq_some_iff.mp H
  obtain ⟨t251, A50, H⟩ := H
  replace H : (some t251) = some r := H
  have A5 := Aside0.mk A50
  clear A50
  obtain rfl := Option.some.inj H
  go_enter Tryd.func5, Tryd.ntmps5
  go_wp2_with (first | ((with_reducible refine gate_callee (f := 13) rfl ?_); refine goesL_ (some 4) rfl rfl Tryd.func13 (by kernel_rfl) rfl #[] rfl (by (try simp only [List.map_toArray, List.map_cons, List.map_nil]); first | done | rfl | (simp only [List.length_drop, List.length_take]; rfl) | (simp only [wrap64_wl, wrap64_wr]; rfl)) ?_; (with_reducible refine (recensionlaw6_begun.calls  true _ (Aside0.mk (tabs_at hT.out (by repeat (first | (with_reducible first | exact HB.out | apply below_alloc | apply pw_below_drewN | apply below_drew1) | exact HB.out)))) A2.out).mono ?_); rintro e w6 ⟨rfl, hb⟩; refine ⟨_, rfl, ?_⟩; have n0_ := Aside0.mk (below_step (by repeat (first | (with_reducible first | exact HB.out | apply below_alloc | apply pw_below_drewN | apply below_drew1) | exact HB.out)) hb); clear HB; have HB := n0_; clear n0_; (try clear hb); (try clear hb2); (try clear hk); (try clear hi)) | ((with_reducible refine gate_callee (f := 16) rfl ?_); refine goesL_ (some 8) rfl rfl Tryd.func16 (by kernel_rfl) rfl #[.string a0, .int .i64 2010] rfl (by (try simp only [List.map_toArray, List.map_cons, List.map_nil]); first | done | rfl | (simp only [List.length_drop, List.length_take]; rfl) | (simp only [wrap64_wl, wrap64_wr]; rfl)) ?_; (with_reducible refine (recensionlaw3_Cut.calls a0 2010 t250 _ A4.out).mono ?_); rintro e w' ⟨rfl, ⟨nd, rfl⟩⟩; refine ⟨_, rfl, ?_⟩) | ((with_reducible refine gate_callee (f := 15) rfl ?_); refine goesL_ (some 9) rfl rfl Tryd.func15 (by kernel_rfl) rfl #[.string t250] rfl (by (try simp only [List.map_toArray, List.map_cons, List.map_nil]); first | done | rfl | (simp only [List.length_drop, List.length_take]; rfl) | (simp only [wrap64_wl, wrap64_wr]; rfl)) ?_; (with_reducible refine (recensionlaw6_same.calls k t250 t251 _ (Aside0.mk (tabs_at hT.out (by repeat (first | (with_reducible first | exact HB.out | apply below_alloc | apply pw_below_drewN | apply below_drew1) | exact HB.out)))) A5.out).mono ?_); rintro e w7 ⟨rfl, hb⟩; refine ⟨_, rfl, ?_⟩; have n0_ := Aside0.mk (below_step (by repeat (first | (with_reducible first | exact HB.out | apply below_alloc | apply pw_below_drewN | apply below_drew1) | exact HB.out)) hb); clear HB; have HB := n0_; clear n0_; (try clear hb); (try clear hb2); (try clear hk); (try clear hi)))
  go_ret
  exact ⟨by first | rfl | (simp [errW_none, errW_some] <;> rfl) | (simp [*, errW_none, errW_some] <;> rfl), by repeat (first | (with_reducible first | exact HB.out | apply below_alloc | apply pw_below_drewN | apply below_drew1) | exact HB.out)⟩
 ·replace c3 := Bool.eq_false_iff.mpr c3
  subst c3
  have H1 : (some false) = some r := by rw [if_neg (show ¬ (false = true) by decide)] at H; exact H
  clear H
  have H := H1
  clear H1
  exact absurd (H.trans (congrArg some hrt.out)) (by simp)

/-- THE ONE PURE STATEMENT of recensionlaw6_ScanAll: yours. -/
def recensionlaw6_ScanAll.Pure : Prop := ∀ (a0 : ByteArray), a0.size ≤ 140737488351232 → ∃ k, recensionlaw6_ScanAll.f k a0 = some true
theorem recensionlaw6_ScanAll.walk (P : recensionlaw6_ScanAll.Pure) (a0 : ByteArray) (w : World) (w0 : a0.size ≤ 140737488351232) (hT : Tabs w) :
  Calls Tryd.prog 5 #[.string a0] w fun e w' => e = .returned (.bool true) ∧ Below w.heap.size w w' := by
 obtain ⟨k, h⟩ := P a0 w0
 refine (recensionlaw6_ScanAll.calls k a0 true w ⟨rfl⟩ ⟨hT⟩ h).mono ?_
 rintro e w' ⟨rfl, hd⟩
 exact ⟨rfl, hd⟩

/-! ### recensionlaw6_ScanTwo: function 6 -/
def recensionlaw6_ScanTwo.f (k : Nat) (a0 : ByteArray) (a1 : ByteArray) (a2 : ByteArray) : Option (Bool) := (recensionlaw6_begun.f).bind fun t252 => (if t252 = true then ((recensionlaw3_Cut.f a0 200).bind fun t253 => ((recensionlaw3_Cut.f a1 5).bind fun t254 => ((recensionlaw3_Cut.f a2 200).bind fun t255 => (if t253.size + t254.size ≤ 9223372036854775807 then (if (t253 ++ t254).size + t255.size ≤ 9223372036854775807 then ((recensionlaw6_same.f k ((t253 ++ t254) ++ t255)).bind fun t256 => (if t256 = true then (if t253.size + 1 ≤ 9223372036854775807 then (if (t253 ++ (⟨#[10]⟩ : ByteArray)).size + t255.size ≤ 9223372036854775807 then ((recensionlaw6_same.f k ((t253 ++ (⟨#[10]⟩ : ByteArray)) ++ t255)).bind fun t257 => (if t257 = true then (if (t253 ++ (⟨#[32]⟩ : ByteArray)).size + t255.size ≤ 9223372036854775807 then ((recensionlaw6_same.f k ((t253 ++ (⟨#[32]⟩ : ByteArray)) ++ t255)).bind fun t258 => (some t258)) else (none)) else (some false))) else (none)) else (none)) else (some false))) else (none)) else (none))))) else (some false))
theorem recensionlaw6_ScanTwo.mono : ∀ a0 a1 a2 k, LeO (recensionlaw6_ScanTwo.f k a0 a1 a2) (recensionlaw6_ScanTwo.f (k + 1) a0 a1 a2) := by
 intro a0 a1 a2 k
 unfold recensionlaw6_ScanTwo.f
 repeat' first
   | (with_reducible exact recensionlaw6_same.mono _ _)
   | (with_reducible exact LeO.refl _)
   | (with_reducible exact LeO.none _)
   | (with_reducible refine LeO.ite ?_ ?_)
   | (with_reducible refine LeO.bind ?_ (fun _ => ?_))
   | exact recensionlaw6_same.mono _ _
   | exact LeO.none _
   | refine LeO.ite ?_ ?_
   | refine LeO.bind ?_ (fun _ => ?_)
set_option maxHeartbeats 8000000 in
set_option maxRecDepth 100000 in
theorem recensionlaw6_ScanTwo.calls (k : Nat) (a0 : ByteArray) (a1 : ByteArray) (a2 : ByteArray) (r : Bool) (w : World) (hrt : Aside0 (r = true)) (hT : Aside0 (Tabs w)) (h : recensionlaw6_ScanTwo.f k a0 a1 a2 = some r) :
  Calls Tryd.prog 6 #[.string a0, .string a1, .string a2] w fun e w' => e = .returned (.bool r) ∧ Below w.heap.size w w' := by
 have HB := Aside0.mk (Below.refl w.heap.size w)
 have H : ((recensionlaw6_begun.f).bind fun t252 => (if t252 = true then ((recensionlaw3_Cut.f a0 200).bind fun t253 => ((recensionlaw3_Cut.f a1 5).bind fun t254 => ((recensionlaw3_Cut.f a2 200).bind fun t255 => (if t253.size + t254.size ≤ 9223372036854775807 then (if (t253 ++ t254).size + t255.size ≤ 9223372036854775807 then ((recensionlaw6_same.f k ((t253 ++ t254) ++ t255)).bind fun t256 => (if t256 = true then (if t253.size + 1 ≤ 9223372036854775807 then (if (t253 ++ (⟨#[10]⟩ : ByteArray)).size + t255.size ≤ 9223372036854775807 then ((recensionlaw6_same.f k ((t253 ++ (⟨#[10]⟩ : ByteArray)) ++ t255)).bind fun t257 => (if t257 = true then (if (t253 ++ (⟨#[32]⟩ : ByteArray)).size + t255.size ≤ 9223372036854775807 then ((recensionlaw6_same.f k ((t253 ++ (⟨#[32]⟩ : ByteArray)) ++ t255)).bind fun t258 => (some t258)) else (none)) else (some false))) else (none)) else (none)) else (some false))) else (none)) else (none))))) else (some false))) = some r := h
 clear h
 replace H := Option.bind_eq_some_iff.mp H
 obtain ⟨t252, A40, H⟩ := H
 replace H : (if t252 = true then ((recensionlaw3_Cut.f a0 200).bind fun t253 => ((recensionlaw3_Cut.f a1 5).bind fun t254 => ((recensionlaw3_Cut.f a2 200).bind fun t255 => (if t253.size + t254.size ≤ 9223372036854775807 then (if (t253 ++ t254).size + t255.size ≤ 9223372036854775807 then ((recensionlaw6_same.f k ((t253 ++ t254) ++ t255)).bind fun t256 => (if t256 = true then (if t253.size + 1 ≤ 9223372036854775807 then (if (t253 ++ (⟨#[10]⟩ : ByteArray)).size + t255.size ≤ 9223372036854775807 then ((recensionlaw6_same.f k ((t253 ++ (⟨#[10]⟩ : ByteArray)) ++ t255)).bind fun t257 => (if t257 = true then (if (t253 ++ (⟨#[32]⟩ : ByteArray)).size + t255.size ≤ 9223372036854775807 then ((recensionlaw6_same.f k ((t253 ++ (⟨#[32]⟩ : ByteArray)) ++ t255)).bind fun t258 => (some t258)) else (none)) else (some false))) else (none)) else (none)) else (some false))) else (none)) else (none))))) else (some false)) = some r := H
 have A4 := Aside0.mk A40
 clear A40
 by_cases c5 : t252 = true
 ·subst c5
  have H1 : ((recensionlaw3_Cut.f a0 200).bind fun t253 => ((recensionlaw3_Cut.f a1 5).bind fun t254 => ((recensionlaw3_Cut.f a2 200).bind fun t255 => (if t253.size + t254.size ≤ 9223372036854775807 then (if (t253 ++ t254).size + t255.size ≤ 9223372036854775807 then ((recensionlaw6_same.f k ((t253 ++ t254) ++ t255)).bind fun t256 => (if t256 = true then (if t253.size + 1 ≤ 9223372036854775807 then (if (t253 ++ (⟨#[10]⟩ : ByteArray)).size + t255.size ≤ 9223372036854775807 then ((recensionlaw6_same.f k ((t253 ++ (⟨#[10]⟩ : ByteArray)) ++ t255)).bind fun t257 => (if t257 = true then (if (t253 ++ (⟨#[32]⟩ : ByteArray)).size + t255.size ≤ 9223372036854775807 then ((recensionlaw6_same.f k ((t253 ++ (⟨#[32]⟩ : ByteArray)) ++ t255)).bind fun t258 => (some t258)) else (none)) else (some false))) else (none)) else (none)) else (some false))) else (none)) else (none))))) = some r := by rw [if_pos rfl] at H; exact H
  clear H
  have H := H1
  clear H1
  replace H := Option.bind_eq_some_iff.mp H
  obtain ⟨t253, A60, H⟩ := H
  replace H : ((recensionlaw3_Cut.f a1 5).bind fun t254 => ((recensionlaw3_Cut.f a2 200).bind fun t255 => (if t253.size + t254.size ≤ 9223372036854775807 then (if (t253 ++ t254).size + t255.size ≤ 9223372036854775807 then ((recensionlaw6_same.f k ((t253 ++ t254) ++ t255)).bind fun t256 => (if t256 = true then (if t253.size + 1 ≤ 9223372036854775807 then (if (t253 ++ (⟨#[10]⟩ : ByteArray)).size + t255.size ≤ 9223372036854775807 then ((recensionlaw6_same.f k ((t253 ++ (⟨#[10]⟩ : ByteArray)) ++ t255)).bind fun t257 => (if t257 = true then (if (t253 ++ (⟨#[32]⟩ : ByteArray)).size + t255.size ≤ 9223372036854775807 then ((recensionlaw6_same.f k ((t253 ++ (⟨#[32]⟩ : ByteArray)) ++ t255)).bind fun t258 => (some t258)) else (none)) else (some false))) else (none)) else (none)) else (some false))) else (none)) else (none)))) = some r := H
  have A6 := Aside0.mk A60
  clear A60
  replace H := Option.bind_eq_some_iff.mp H
  obtain ⟨t254, A70, H⟩ := H
  replace H : ((recensionlaw3_Cut.f a2 200).bind fun t255 => (if t253.size + t254.size ≤ 9223372036854775807 then (if (t253 ++ t254).size + t255.size ≤ 9223372036854775807 then ((recensionlaw6_same.f k ((t253 ++ t254) ++ t255)).bind fun t256 => (if t256 = true then (if t253.size + 1 ≤ 9223372036854775807 then (if (t253 ++ (⟨#[10]⟩ : ByteArray)).size + t255.size ≤ 9223372036854775807 then ((recensionlaw6_same.f k ((t253 ++ (⟨#[10]⟩ : ByteArray)) ++ t255)).bind fun t257 => (if t257 = true then (if (t253 ++ (⟨#[32]⟩ : ByteArray)).size + t255.size ≤ 9223372036854775807 then ((recensionlaw6_same.f k ((t253 ++ (⟨#[32]⟩ : ByteArray)) ++ t255)).bind fun t258 => (some t258)) else (none)) else (some false))) else (none)) else (none)) else (some false))) else (none)) else (none))) = some r := H
  have A7 := Aside0.mk A70
  clear A70
  replace H := Option.bind_eq_some_iff.mp H
  obtain ⟨t255, A80, H⟩ := H
  replace H : (if t253.size + t254.size ≤ 9223372036854775807 then (if (t253 ++ t254).size + t255.size ≤ 9223372036854775807 then ((recensionlaw6_same.f k ((t253 ++ t254) ++ t255)).bind fun t256 => (if t256 = true then (if t253.size + 1 ≤ 9223372036854775807 then (if (t253 ++ (⟨#[10]⟩ : ByteArray)).size + t255.size ≤ 9223372036854775807 then ((recensionlaw6_same.f k ((t253 ++ (⟨#[10]⟩ : ByteArray)) ++ t255)).bind fun t257 => (if t257 = true then (if (t253 ++ (⟨#[32]⟩ : ByteArray)).size + t255.size ≤ 9223372036854775807 then ((recensionlaw6_same.f k ((t253 ++ (⟨#[32]⟩ : ByteArray)) ++ t255)).bind fun t258 => (some t258)) else (none)) else (some false))) else (none)) else (none)) else (some false))) else (none)) else (none)) = some r := H
  have A8 := Aside0.mk A80
  clear A80
  by_cases c9 : t253.size + t254.size ≤ 9223372036854775807
  ·rw [if_pos c9] at H
   have c9b0 := eq_true c9
   have c9b1 : decide (t253.size + t254.size ≤ 9223372036854775807) = true := decide_eq_true c9
   try have c9b2 : (9223372036854775807 < t253.size + t254.size) = False := eq_false (Nat.not_lt.2 c9)
   by_cases c10 : (t253 ++ t254).size + t255.size ≤ 9223372036854775807
   ·rw [if_pos c10] at H
    have c10b0 := eq_true c10
    have c10b1 : decide ((t253 ++ t254).size + t255.size ≤ 9223372036854775807) = true := decide_eq_true c10
    try have c10b2 : (9223372036854775807 < (t253 ++ t254).size + t255.size) = False := eq_false (Nat.not_lt.2 c10)
    (try (have c10b2z := c10b2; simp only [ByteArray.size_append] at c10b2z))
    replace H := Option.bind_eq_some_iff.mp H
    obtain ⟨t256, A110, H⟩ := H
    replace H : (if t256 = true then (if t253.size + 1 ≤ 9223372036854775807 then (if (t253 ++ (⟨#[10]⟩ : ByteArray)).size + t255.size ≤ 9223372036854775807 then ((recensionlaw6_same.f k ((t253 ++ (⟨#[10]⟩ : ByteArray)) ++ t255)).bind fun t257 => (if t257 = true then (if (t253 ++ (⟨#[32]⟩ : ByteArray)).size + t255.size ≤ 9223372036854775807 then ((recensionlaw6_same.f k ((t253 ++ (⟨#[32]⟩ : ByteArray)) ++ t255)).bind fun t258 => (some t258)) else (none)) else (some false))) else (none)) else (none)) else (some false)) = some r := H
    have A11 := Aside0.mk A110
    clear A110
    by_cases c12 : t256 = true
    ·subst c12
     have H1 : (if t253.size + 1 ≤ 9223372036854775807 then (if (t253 ++ (⟨#[10]⟩ : ByteArray)).size + t255.size ≤ 9223372036854775807 then ((recensionlaw6_same.f k ((t253 ++ (⟨#[10]⟩ : ByteArray)) ++ t255)).bind fun t257 => (if t257 = true then (if (t253 ++ (⟨#[32]⟩ : ByteArray)).size + t255.size ≤ 9223372036854775807 then ((recensionlaw6_same.f k ((t253 ++ (⟨#[32]⟩ : ByteArray)) ++ t255)).bind fun t258 => (some t258)) else (none)) else (some false))) else (none)) else (none)) = some r := by rw [if_pos rfl] at H; exact H
     clear H
     have H := H1
     clear H1
     by_cases c13 : t253.size + 1 ≤ 9223372036854775807
     ·rw [if_pos c13] at H
      have c13b0 := eq_true c13
      have c13b1 : decide (t253.size + 1 ≤ 9223372036854775807) = true := decide_eq_true c13
      try have c13b2 : (9223372036854775807 < t253.size + 1) = False := eq_false (Nat.not_lt.2 c13)
      by_cases c14 : (t253 ++ (⟨#[10]⟩ : ByteArray)).size + t255.size ≤ 9223372036854775807
      ·rw [if_pos c14] at H
       have c14b0 := eq_true c14
       have c14b1 : decide ((t253 ++ (⟨#[10]⟩ : ByteArray)).size + t255.size ≤ 9223372036854775807) = true := decide_eq_true c14
       try have c14b2 : (9223372036854775807 < (t253 ++ (⟨#[10]⟩ : ByteArray)).size + t255.size) = False := eq_false (Nat.not_lt.2 c14)
       (try (have c14b2z := c14b2; simp only [ByteArray.size_append, show (⟨#[10]⟩ : ByteArray).size = 1 from rfl] at c14b2z))
       replace H := Option.bind_eq_some_iff.mp H
       obtain ⟨t257, A150, H⟩ := H
       replace H : (if t257 = true then (if (t253 ++ (⟨#[32]⟩ : ByteArray)).size + t255.size ≤ 9223372036854775807 then ((recensionlaw6_same.f k ((t253 ++ (⟨#[32]⟩ : ByteArray)) ++ t255)).bind fun t258 => (some t258)) else (none)) else (some false)) = some r := H
       have A15 := Aside0.mk A150
       clear A150
       by_cases c16 : t257 = true
       ·subst c16
        have H1 : (if (t253 ++ (⟨#[32]⟩ : ByteArray)).size + t255.size ≤ 9223372036854775807 then ((recensionlaw6_same.f k ((t253 ++ (⟨#[32]⟩ : ByteArray)) ++ t255)).bind fun t258 => (some t258)) else (none)) = some r := by rw [if_pos rfl] at H; exact H
        clear H
        have H := H1
        clear H1
        by_cases c17 : (t253 ++ (⟨#[32]⟩ : ByteArray)).size + t255.size ≤ 9223372036854775807
        ·rw [if_pos c17] at H
         have c17b0 := eq_true c17
         have c17b1 : decide ((t253 ++ (⟨#[32]⟩ : ByteArray)).size + t255.size ≤ 9223372036854775807) = true := decide_eq_true c17
         try have c17b2 : (9223372036854775807 < (t253 ++ (⟨#[32]⟩ : ByteArray)).size + t255.size) = False := eq_false (Nat.not_lt.2 c17)
         (try (have c17b2z := c17b2; simp only [ByteArray.size_append, show (⟨#[32]⟩ : ByteArray).size = 1 from rfl] at c17b2z))
         replace H := Option.bind_eq_some_iff.mp H
         obtain ⟨t258, A180, H⟩ := H
         replace H : (some t258) = some r := H
         have A18 := Aside0.mk A180
         clear A180
         obtain rfl := Option.some.inj H
         go_enter Tryd.func6, Tryd.ntmps6
         go_wp2_with (first | ((with_reducible refine gate_callee (f := 13) rfl ?_); refine goesL_ (some 8) rfl rfl Tryd.func13 (by kernel_rfl) rfl #[] rfl (by (try simp only [List.map_toArray, List.map_cons, List.map_nil]); first | done | rfl | (simp only [List.length_drop, List.length_take]; rfl) | (simp only [wrap64_wl, wrap64_wr]; rfl)) ?_; (with_reducible refine (recensionlaw6_begun.calls  true _ (Aside0.mk (tabs_at hT.out (by repeat (first | (with_reducible first | exact HB.out | apply below_alloc | apply pw_below_drewN | apply below_drew1) | exact HB.out)))) A4.out).mono ?_); rintro e w19 ⟨rfl, hb⟩; refine ⟨_, rfl, ?_⟩; have n0_ := Aside0.mk (below_step (by repeat (first | (with_reducible first | exact HB.out | apply below_alloc | apply pw_below_drewN | apply below_drew1) | exact HB.out)) hb); clear HB; have HB := n0_; clear n0_; (try clear hb); (try clear hb2); (try clear hk); (try clear hi)) | ((with_reducible refine gate_callee (f := 16) rfl ?_); refine goesL_ (some 12) rfl rfl Tryd.func16 (by kernel_rfl) rfl #[.string a0, .int .i64 200] rfl (by (try simp only [List.map_toArray, List.map_cons, List.map_nil]); first | done | rfl | (simp only [List.length_drop, List.length_take]; rfl) | (simp only [wrap64_wl, wrap64_wr]; rfl)) ?_; (with_reducible refine (recensionlaw3_Cut.calls a0 200 t253 _ A6.out).mono ?_); rintro e w' ⟨rfl, ⟨nd, rfl⟩⟩; refine ⟨_, rfl, ?_⟩) | ((with_reducible refine gate_callee (f := 16) rfl ?_); refine goesL_ (some 14) rfl rfl Tryd.func16 (by kernel_rfl) rfl #[.string a1, .int .i64 5] rfl (by (try simp only [List.map_toArray, List.map_cons, List.map_nil]); first | done | rfl | (simp only [List.length_drop, List.length_take]; rfl) | (simp only [wrap64_wl, wrap64_wr]; rfl)) ?_; (with_reducible refine (recensionlaw3_Cut.calls a1 5 t254 _ A7.out).mono ?_); rintro e w' ⟨rfl, ⟨nd, rfl⟩⟩; refine ⟨_, rfl, ?_⟩) | ((with_reducible refine gate_callee (f := 16) rfl ?_); refine goesL_ (some 16) rfl rfl Tryd.func16 (by kernel_rfl) rfl #[.string a2, .int .i64 200] rfl (by (try simp only [List.map_toArray, List.map_cons, List.map_nil]); first | done | rfl | (simp only [List.length_drop, List.length_take]; rfl) | (simp only [wrap64_wl, wrap64_wr]; rfl)) ?_; (with_reducible refine (recensionlaw3_Cut.calls a2 200 t255 _ A8.out).mono ?_); rintro e w' ⟨rfl, ⟨nd, rfl⟩⟩; refine ⟨_, rfl, ?_⟩) | ((with_reducible refine gate_callee (f := 15) rfl ?_); refine goesL_ (some 22) rfl rfl Tryd.func15 (by kernel_rfl) rfl #[.string ((t253 ++ t254) ++ t255)] rfl (by (try simp only [List.map_toArray, List.map_cons, List.map_nil]); first | done | rfl | (simp only [List.length_drop, List.length_take]; rfl) | (simp only [wrap64_wl, wrap64_wr]; rfl)) ?_; (with_reducible refine (recensionlaw6_same.calls k ((t253 ++ t254) ++ t255) true _ (Aside0.mk (tabs_at hT.out (by repeat (first | (with_reducible first | exact HB.out | apply below_alloc | apply pw_below_drewN | apply below_drew1) | exact HB.out)))) A11.out).mono ?_); rintro e w20 ⟨rfl, hb⟩; refine ⟨_, rfl, ?_⟩; have n0_ := Aside0.mk (below_step (by repeat (first | (with_reducible first | exact HB.out | apply below_alloc | apply pw_below_drewN | apply below_drew1) | exact HB.out)) hb); clear HB; have HB := n0_; clear n0_; (try clear hb); (try clear hb2); (try clear hk); (try clear hi)) | (go_at_call 15; (with_reducible refine (recensionlaw6_same.calls k ((t253 ++ (⟨#[10]⟩ : ByteArray)) ++ t255) true _ (Aside0.mk (tabs_at hT.out (by repeat (first | (with_reducible first | exact HB.out | apply below_alloc | apply pw_below_drewN | apply below_drew1) | exact HB.out)))) A15.out).mono ?_); rintro e w21 ⟨rfl, hb⟩; have n0_ := Aside0.mk (below_step (by repeat (first | (with_reducible first | exact HB.out | apply below_alloc | apply pw_below_drewN | apply below_drew1) | exact HB.out)) hb); clear HB; have HB := n0_; clear n0_; (try clear hb); (try clear hb2); (try clear hk); (try clear hi)) | (go_at_call 15; (with_reducible refine (recensionlaw6_same.calls k ((t253 ++ (⟨#[32]⟩ : ByteArray)) ++ t255) t258 _ (Aside0.mk (tabs_at hT.out (by repeat (first | (with_reducible first | exact HB.out | apply below_alloc | apply pw_below_drewN | apply below_drew1) | exact HB.out)))) A18.out).mono ?_); rintro e w22 ⟨rfl, hb⟩; have n0_ := Aside0.mk (below_step (by repeat (first | (with_reducible first | exact HB.out | apply below_alloc | apply pw_below_drewN | apply below_drew1) | exact HB.out)) hb); clear HB; have HB := n0_; clear n0_; (try clear hb); (try clear hb2); (try clear hk); (try clear hi)))
         go_ret
         exact ⟨by first | rfl | (simp [errW_none, errW_some] <;> rfl) | (simp [*, errW_none, errW_some] <;> rfl), by repeat (first | (with_reducible first | exact HB.out | apply below_alloc | apply pw_below_drewN | apply below_drew1) | exact HB.out)⟩
        ·rw [if_neg c17] at H
         exact absurd H (by simp)
       ·replace c16 := Bool.eq_false_iff.mpr c16
        subst c16
        have H1 : (some false) = some r := by rw [if_neg (show ¬ (false = true) by decide)] at H; exact H
        clear H
        have H := H1
        clear H1
        exact absurd (H.trans (congrArg some hrt.out)) (by simp)
      ·rw [if_neg c14] at H
       exact absurd H (by simp)
     ·rw [if_neg c13] at H
      exact absurd H (by simp)
    ·replace c12 := Bool.eq_false_iff.mpr c12
     subst c12
     have H1 : (some false) = some r := by rw [if_neg (show ¬ (false = true) by decide)] at H; exact H
     clear H
     have H := H1
     clear H1
     exact absurd (H.trans (congrArg some hrt.out)) (by simp)
   ·rw [if_neg c10] at H
    exact absurd H (by simp)
  ·rw [if_neg c9] at H
   exact absurd H (by simp)
 ·replace c5 := Bool.eq_false_iff.mpr c5
  subst c5
  have H1 : (some false) = some r := by rw [if_neg (show ¬ (false = true) by decide)] at H; exact H
  clear H
  have H := H1
  clear H1
  exact absurd (H.trans (congrArg some hrt.out)) (by simp)

/-- THE ONE PURE STATEMENT of recensionlaw6_ScanTwo: yours. -/
def recensionlaw6_ScanTwo.Pure : Prop := ∀ (a0 : ByteArray) (a1 : ByteArray) (a2 : ByteArray), a0.size ≤ 140737488351232 → a1.size ≤ 140737488351232 → a2.size ≤ 140737488351232 → ∃ k, recensionlaw6_ScanTwo.f k a0 a1 a2 = some true
theorem recensionlaw6_ScanTwo.walk (P : recensionlaw6_ScanTwo.Pure) (a0 : ByteArray) (a1 : ByteArray) (a2 : ByteArray) (w : World) (w0 : a0.size ≤ 140737488351232) (w1 : a1.size ≤ 140737488351232) (w2 : a2.size ≤ 140737488351232) (hT : Tabs w) :
  Calls Tryd.prog 6 #[.string a0, .string a1, .string a2] w fun e w' => e = .returned (.bool true) ∧ Below w.heap.size w w' := by
 obtain ⟨k, h⟩ := P a0 a1 a2 w0 w1 w2
 refine (recensionlaw6_ScanTwo.calls k a0 a1 a2 true w ⟨rfl⟩ ⟨hT⟩ h).mono ?_
 rintro e w' ⟨rfl, hd⟩
 exact ⟨rfl, hd⟩

/-! ### recensionlaw6_ScanBytes: function 7 -/
def recensionlaw6_ScanBytes.f (k : Nat) (a0 : Int) (a1 : Int) (a2 : Int) (a3 : Int) : Option (Bool) := (recensionlaw6_begun.f).bind fun t259 => (if t259 = true then ((some (([a0, a1, a2, a3] : List Int) : List Int)).bind fun y260 => ((recensionlaw6_same.f k (strOfNums y260)).bind fun t263 => (if t263 = true then (if 2 + (strOfNums y260).size ≤ 9223372036854775807 then ((recensionlaw6_same.f k ((⟨#[120, 32]⟩ : ByteArray) ++ (strOfNums y260))).bind fun t264 => (if t264 = true then (if 1 + (strOfNums y260).size ≤ 9223372036854775807 then (if ((⟨#[120]⟩ : ByteArray) ++ (strOfNums y260)).size + 1 ≤ 9223372036854775807 then ((recensionlaw6_same.f k (((⟨#[120]⟩ : ByteArray) ++ (strOfNums y260)) ++ (⟨#[10]⟩ : ByteArray))).bind fun t265 => (if t265 = true then ((recensionlaw6_same.f k ((⟨#[34, 120]⟩ : ByteArray) ++ (strOfNums y260))).bind fun t266 => (some t266)) else (some false))) else (none)) else (none)) else (some false))) else (none)) else (some false)))) else (some false))
theorem recensionlaw6_ScanBytes.mono : ∀ a0 a1 a2 a3 k, LeO (recensionlaw6_ScanBytes.f k a0 a1 a2 a3) (recensionlaw6_ScanBytes.f (k + 1) a0 a1 a2 a3) := by
 intro a0 a1 a2 a3 k
 unfold recensionlaw6_ScanBytes.f
 repeat' first
   | (with_reducible exact recensionlaw6_same.mono _ _)
   | (with_reducible exact LeO.refl _)
   | (with_reducible exact LeO.none _)
   | (with_reducible refine LeO.ite ?_ ?_)
   | (with_reducible refine LeO.bind ?_ (fun _ => ?_))
   | exact recensionlaw6_same.mono _ _
   | exact LeO.none _
   | refine LeO.ite ?_ ?_
   | refine LeO.bind ?_ (fun _ => ?_)
set_option maxHeartbeats 8000000 in
set_option maxRecDepth 100000 in
theorem recensionlaw6_ScanBytes.calls (k : Nat) (a0 : Int) (a1 : Int) (a2 : Int) (a3 : Int) (r : Bool) (w : World) (hrt : Aside0 (r = true)) (hT : Aside0 (Tabs w)) (h : recensionlaw6_ScanBytes.f k a0 a1 a2 a3 = some r) :
  Calls Tryd.prog 7 #[.int .u8 a0, .int .u8 a1, .int .u8 a2, .int .u8 a3] w fun e w' => e = .returned (.bool r) ∧ Below w.heap.size w w' := by
 have HB := Aside0.mk (Below.refl w.heap.size w)
 have H : ((recensionlaw6_begun.f).bind fun t259 => (if t259 = true then ((some (([a0, a1, a2, a3] : List Int) : List Int)).bind fun y260 => ((recensionlaw6_same.f k (strOfNums y260)).bind fun t263 => (if t263 = true then (if 2 + (strOfNums y260).size ≤ 9223372036854775807 then ((recensionlaw6_same.f k ((⟨#[120, 32]⟩ : ByteArray) ++ (strOfNums y260))).bind fun t264 => (if t264 = true then (if 1 + (strOfNums y260).size ≤ 9223372036854775807 then (if ((⟨#[120]⟩ : ByteArray) ++ (strOfNums y260)).size + 1 ≤ 9223372036854775807 then ((recensionlaw6_same.f k (((⟨#[120]⟩ : ByteArray) ++ (strOfNums y260)) ++ (⟨#[10]⟩ : ByteArray))).bind fun t265 => (if t265 = true then ((recensionlaw6_same.f k ((⟨#[34, 120]⟩ : ByteArray) ++ (strOfNums y260))).bind fun t266 => (some t266)) else (some false))) else (none)) else (none)) else (some false))) else (none)) else (some false)))) else (some false))) = some r := h
 clear h
 replace H := Option.bind_eq_some_iff.mp H
 obtain ⟨t259, A50, H⟩ := H
 replace H : (if t259 = true then ((some (([a0, a1, a2, a3] : List Int) : List Int)).bind fun y260 => ((recensionlaw6_same.f k (strOfNums y260)).bind fun t263 => (if t263 = true then (if 2 + (strOfNums y260).size ≤ 9223372036854775807 then ((recensionlaw6_same.f k ((⟨#[120, 32]⟩ : ByteArray) ++ (strOfNums y260))).bind fun t264 => (if t264 = true then (if 1 + (strOfNums y260).size ≤ 9223372036854775807 then (if ((⟨#[120]⟩ : ByteArray) ++ (strOfNums y260)).size + 1 ≤ 9223372036854775807 then ((recensionlaw6_same.f k (((⟨#[120]⟩ : ByteArray) ++ (strOfNums y260)) ++ (⟨#[10]⟩ : ByteArray))).bind fun t265 => (if t265 = true then ((recensionlaw6_same.f k ((⟨#[34, 120]⟩ : ByteArray) ++ (strOfNums y260))).bind fun t266 => (some t266)) else (some false))) else (none)) else (none)) else (some false))) else (none)) else (some false)))) else (some false)) = some r := H
 have A5 := Aside0.mk A50
 clear A50
 by_cases c6 : t259 = true
 ·subst c6
  have H1 : ((some (([a0, a1, a2, a3] : List Int) : List Int)).bind fun y260 => ((recensionlaw6_same.f k (strOfNums y260)).bind fun t263 => (if t263 = true then (if 2 + (strOfNums y260).size ≤ 9223372036854775807 then ((recensionlaw6_same.f k ((⟨#[120, 32]⟩ : ByteArray) ++ (strOfNums y260))).bind fun t264 => (if t264 = true then (if 1 + (strOfNums y260).size ≤ 9223372036854775807 then (if ((⟨#[120]⟩ : ByteArray) ++ (strOfNums y260)).size + 1 ≤ 9223372036854775807 then ((recensionlaw6_same.f k (((⟨#[120]⟩ : ByteArray) ++ (strOfNums y260)) ++ (⟨#[10]⟩ : ByteArray))).bind fun t265 => (if t265 = true then ((recensionlaw6_same.f k ((⟨#[34, 120]⟩ : ByteArray) ++ (strOfNums y260))).bind fun t266 => (some t266)) else (some false))) else (none)) else (none)) else (some false))) else (none)) else (some false)))) = some r := by rw [if_pos rfl] at H; exact H
  clear H
  have H := H1
  clear H1
  obtain ⟨y260, hy260⟩ : ∃ y_ : List Int, y_ = (([a0, a1, a2, a3] : List Int)) := ⟨_, rfl⟩
  replace H : ((recensionlaw6_same.f k (strOfNums y260)).bind fun t263 => (if t263 = true then (if 2 + (strOfNums y260).size ≤ 9223372036854775807 then ((recensionlaw6_same.f k ((⟨#[120, 32]⟩ : ByteArray) ++ (strOfNums y260))).bind fun t264 => (if t264 = true then (if 1 + (strOfNums y260).size ≤ 9223372036854775807 then (if ((⟨#[120]⟩ : ByteArray) ++ (strOfNums y260)).size + 1 ≤ 9223372036854775807 then ((recensionlaw6_same.f k (((⟨#[120]⟩ : ByteArray) ++ (strOfNums y260)) ++ (⟨#[10]⟩ : ByteArray))).bind fun t265 => (if t265 = true then ((recensionlaw6_same.f k ((⟨#[34, 120]⟩ : ByteArray) ++ (strOfNums y260))).bind fun t266 => (some t266)) else (some false))) else (none)) else (none)) else (some false))) else (none)) else (some false))) = some r := by first | (rw [hy260]; with_reducible exact H) | (have H2_ := (Option.bind_some _ _).symm.trans H; rw [hy260]; with_reducible exact H2_) | (have H2_ := (Option.bind_some _ _).symm.trans H; with_reducible exact H2_) | with_reducible exact H | (rw [hy260]; exact H) | exact H
  have Ny260 := Aside0.mk hy260
  clear hy260
  replace H := Option.bind_eq_some_iff.mp H
  obtain ⟨t263, A70, H⟩ := H
  replace H : (if t263 = true then (if 2 + (strOfNums y260).size ≤ 9223372036854775807 then ((recensionlaw6_same.f k ((⟨#[120, 32]⟩ : ByteArray) ++ (strOfNums y260))).bind fun t264 => (if t264 = true then (if 1 + (strOfNums y260).size ≤ 9223372036854775807 then (if ((⟨#[120]⟩ : ByteArray) ++ (strOfNums y260)).size + 1 ≤ 9223372036854775807 then ((recensionlaw6_same.f k (((⟨#[120]⟩ : ByteArray) ++ (strOfNums y260)) ++ (⟨#[10]⟩ : ByteArray))).bind fun t265 => (if t265 = true then ((recensionlaw6_same.f k ((⟨#[34, 120]⟩ : ByteArray) ++ (strOfNums y260))).bind fun t266 => (some t266)) else (some false))) else (none)) else (none)) else (some false))) else (none)) else (some false)) = some r := H
  have A7 := Aside0.mk A70
  clear A70
  by_cases c8 : t263 = true
  ·subst c8
   have H1 : (if 2 + (strOfNums y260).size ≤ 9223372036854775807 then ((recensionlaw6_same.f k ((⟨#[120, 32]⟩ : ByteArray) ++ (strOfNums y260))).bind fun t264 => (if t264 = true then (if 1 + (strOfNums y260).size ≤ 9223372036854775807 then (if ((⟨#[120]⟩ : ByteArray) ++ (strOfNums y260)).size + 1 ≤ 9223372036854775807 then ((recensionlaw6_same.f k (((⟨#[120]⟩ : ByteArray) ++ (strOfNums y260)) ++ (⟨#[10]⟩ : ByteArray))).bind fun t265 => (if t265 = true then ((recensionlaw6_same.f k ((⟨#[34, 120]⟩ : ByteArray) ++ (strOfNums y260))).bind fun t266 => (some t266)) else (some false))) else (none)) else (none)) else (some false))) else (none)) = some r := by rw [if_pos rfl] at H; exact H
   clear H
   have H := H1
   clear H1
   by_cases c9 : 2 + (strOfNums y260).size ≤ 9223372036854775807
   ·rw [if_pos c9] at H
    have c9b0 := eq_true c9
    have c9b1 : decide (2 + (strOfNums y260).size ≤ 9223372036854775807) = true := decide_eq_true c9
    try have c9b2 : (9223372036854775807 < 2 + (strOfNums y260).size) = False := eq_false (Nat.not_lt.2 c9)
    replace H := Option.bind_eq_some_iff.mp H
    obtain ⟨t264, A100, H⟩ := H
    replace H : (if t264 = true then (if 1 + (strOfNums y260).size ≤ 9223372036854775807 then (if ((⟨#[120]⟩ : ByteArray) ++ (strOfNums y260)).size + 1 ≤ 9223372036854775807 then ((recensionlaw6_same.f k (((⟨#[120]⟩ : ByteArray) ++ (strOfNums y260)) ++ (⟨#[10]⟩ : ByteArray))).bind fun t265 => (if t265 = true then ((recensionlaw6_same.f k ((⟨#[34, 120]⟩ : ByteArray) ++ (strOfNums y260))).bind fun t266 => (some t266)) else (some false))) else (none)) else (none)) else (some false)) = some r := H
    have A10 := Aside0.mk A100
    clear A100
    by_cases c11 : t264 = true
    ·subst c11
     have H1 : (if 1 + (strOfNums y260).size ≤ 9223372036854775807 then (if ((⟨#[120]⟩ : ByteArray) ++ (strOfNums y260)).size + 1 ≤ 9223372036854775807 then ((recensionlaw6_same.f k (((⟨#[120]⟩ : ByteArray) ++ (strOfNums y260)) ++ (⟨#[10]⟩ : ByteArray))).bind fun t265 => (if t265 = true then ((recensionlaw6_same.f k ((⟨#[34, 120]⟩ : ByteArray) ++ (strOfNums y260))).bind fun t266 => (some t266)) else (some false))) else (none)) else (none)) = some r := by rw [if_pos rfl] at H; exact H
     clear H
     have H := H1
     clear H1
     by_cases c12 : 1 + (strOfNums y260).size ≤ 9223372036854775807
     ·rw [if_pos c12] at H
      have c12b0 := eq_true c12
      have c12b1 : decide (1 + (strOfNums y260).size ≤ 9223372036854775807) = true := decide_eq_true c12
      try have c12b2 : (9223372036854775807 < 1 + (strOfNums y260).size) = False := eq_false (Nat.not_lt.2 c12)
      by_cases c13 : ((⟨#[120]⟩ : ByteArray) ++ (strOfNums y260)).size + 1 ≤ 9223372036854775807
      ·rw [if_pos c13] at H
       have c13b0 := eq_true c13
       have c13b1 : decide (((⟨#[120]⟩ : ByteArray) ++ (strOfNums y260)).size + 1 ≤ 9223372036854775807) = true := decide_eq_true c13
       try have c13b2 : (9223372036854775807 < ((⟨#[120]⟩ : ByteArray) ++ (strOfNums y260)).size + 1) = False := eq_false (Nat.not_lt.2 c13)
       (try (have c13b2z := c13b2; simp only [ByteArray.size_append, show (⟨#[120]⟩ : ByteArray).size = 1 from rfl] at c13b2z))
       replace H := Option.bind_eq_some_iff.mp H
       obtain ⟨t265, A140, H⟩ := H
       replace H : (if t265 = true then ((recensionlaw6_same.f k ((⟨#[34, 120]⟩ : ByteArray) ++ (strOfNums y260))).bind fun t266 => (some t266)) else (some false)) = some r := H
       have A14 := Aside0.mk A140
       clear A140
       by_cases c15 : t265 = true
       ·subst c15
        have H1 : ((recensionlaw6_same.f k ((⟨#[34, 120]⟩ : ByteArray) ++ (strOfNums y260))).bind fun t266 => (some t266)) = some r := by rw [if_pos rfl] at H; exact H
        clear H
        have H := H1
        clear H1
        replace H := Option.bind_eq_some_iff.mp H
        obtain ⟨t266, A160, H⟩ := H
        replace H : (some t266) = some r := H
        have A16 := Aside0.mk A160
        clear A160
        obtain rfl := Option.some.inj H
        go_enter Tryd.func7, Tryd.ntmps7
        go_wp2_with (first | ((with_reducible refine gate_callee (f := 13) rfl ?_); refine goesL_ (some 11) rfl rfl Tryd.func13 (by kernel_rfl) rfl #[] rfl (by (try simp only [List.map_toArray, List.map_cons, List.map_nil]); first | done | rfl | (simp only [List.length_drop, List.length_take]; rfl) | (simp only [wrap64_wl, wrap64_wr]; rfl)) ?_; (with_reducible refine (recensionlaw6_begun.calls  true _ (Aside0.mk (tabs_at hT.out (by repeat (first | (with_reducible first | exact HB.out | apply below_alloc | apply pw_below_drewN | apply below_drew1) | exact HB.out)))) A5.out).mono ?_); rintro e w17 ⟨rfl, hb⟩; refine ⟨_, rfl, ?_⟩; have n0_ := Aside0.mk (below_step (by repeat (first | (with_reducible first | exact HB.out | apply below_alloc | apply pw_below_drewN | apply below_drew1) | exact HB.out)) hb); clear HB; have HB := n0_; clear n0_; (try clear hb); (try clear hb2); (try clear hk); (try clear hi)) | ((with_reducible refine gate_dst (N := 18) rfl ?_); refine Kd.R_lit (Kd.int .u8) _ 5 ?hg (N := 18) ?hd (xs := ([a0, a1, a2, a3] : List Int)) (inner := [.int .u8 a0, .int .u8 a1, .int .u8 a2, .int .u8 a3]) (ok := fun _ => True) (okp := fun _ => True) ?hr ?hp (fun _ hk => hk) trivial (Below.refl _ _) (Nat.le_refl _) (by simp) ?_; (case hd => rfl); (case hg => rfl); (case hr => first | (go_simp; done) | (go_simp; rfl)); (case hp => exact (Reps.one (show Kd.M (Kd.int .u8) _ _ _ a0 [.int .u8 a0] from rfl) (Reps.one (show Kd.M (Kd.int .u8) _ _ _ a1 [.int .u8 a1] from rfl) (Reps.one (show Kd.M (Kd.int .u8) _ _ _ a2 [.int .u8 a2] from rfl) (Reps.one (show Kd.M (Kd.int .u8) _ _ _ a3 [.int .u8 a3] from rfl) (Reps.none _ _)))))); intro v261 w18 ho19 hb hg_ hnew_; clear hg_ hnew_; (first | rw [← Ny260.out] at ho19 | (simp only [Int.reduceToNat] at ho19; rw [← Ny260.out] at ho19)); have n0_ := Aside0.mk (Kd.R_lower ho19 (below_size (by repeat (first | (with_reducible first | exact HB.out | apply below_alloc | apply pw_below_drewN | apply below_drew1) | exact HB.out)))); have n1_ := Aside0.mk (below_step (by repeat (first | (with_reducible first | exact HB.out | apply below_alloc | apply pw_below_drewN | apply below_drew1) | exact HB.out)) hb); clear HB; have HO262 := n0_; have HB := n1_; clear n0_ n1_; clear hb ho19; have hcv20 := own_string (P := Tryd.prog) Tryd.underlying23 Tryd.underlying5 Tryd.underlying9 (Kd.own_of_R HO262.out); have hcv21 := fun nd_ : Nat => own_string (P := Tryd.prog) Tryd.underlying23 Tryd.underlying5 Tryd.underlying9 (Kd.own_of_R (Kd.R_drewN HO262.out nd_))) | ((with_reducible refine gate_callee (f := 15) rfl ?_); refine goesL_ (some 21) rfl rfl Tryd.func15 (by kernel_rfl) rfl #[.string (strOfNums y260)] rfl (by (try simp only [List.map_toArray, List.map_cons, List.map_nil]); first | done | rfl | (simp only [List.length_drop, List.length_take]; rfl) | (simp only [wrap64_wl, wrap64_wr]; rfl)) ?_; (with_reducible refine (recensionlaw6_same.calls k (strOfNums y260) true _ (Aside0.mk (tabs_at hT.out (by repeat (first | (with_reducible first | exact HB.out | apply below_alloc | apply pw_below_drewN | apply below_drew1) | exact HB.out)))) A7.out).mono ?_); rintro e w22 ⟨rfl, hb⟩; refine ⟨_, rfl, ?_⟩; have n0_ := Aside0.mk (Kd.R_below (by (with_reducible repeat (first | apply Kd.R_alloc | apply Kd.R_drewN | apply Kd.R_drew)); exact HO262.out) hb); have n1_ := Aside0.mk (below_step (by repeat (first | (with_reducible first | exact HB.out | apply below_alloc | apply pw_below_drewN | apply below_drew1) | exact HB.out)) hb); clear HO262; clear HB; have HO262 := n0_; have HB := n1_; clear n0_ n1_; (try clear hb); (try clear hb2); (try clear hk); (try clear hi)) | (go_at_call 15; (with_reducible refine (recensionlaw6_same.calls k ((⟨#[120, 32]⟩ : ByteArray) ++ (strOfNums y260)) true _ (Aside0.mk (tabs_at hT.out (by repeat (first | (with_reducible first | exact HB.out | apply below_alloc | apply pw_below_drewN | apply below_drew1) | exact HB.out)))) A10.out).mono ?_); rintro e w23 ⟨rfl, hb⟩; have n0_ := Aside0.mk (Kd.R_below (by (with_reducible repeat (first | apply Kd.R_alloc | apply Kd.R_drewN | apply Kd.R_drew)); exact HO262.out) hb); have n1_ := Aside0.mk (below_step (by repeat (first | (with_reducible first | exact HB.out | apply below_alloc | apply pw_below_drewN | apply below_drew1) | exact HB.out)) hb); clear HO262; clear HB; have HO262 := n0_; have HB := n1_; clear n0_ n1_; (try clear hb); (try clear hb2); (try clear hk); (try clear hi)) | (go_at_call 15; (with_reducible refine (recensionlaw6_same.calls k (((⟨#[120]⟩ : ByteArray) ++ (strOfNums y260)) ++ (⟨#[10]⟩ : ByteArray)) true _ (Aside0.mk (tabs_at hT.out (by repeat (first | (with_reducible first | exact HB.out | apply below_alloc | apply pw_below_drewN | apply below_drew1) | exact HB.out)))) A14.out).mono ?_); rintro e w24 ⟨rfl, hb⟩; have n0_ := Aside0.mk (Kd.R_below (by (with_reducible repeat (first | apply Kd.R_alloc | apply Kd.R_drewN | apply Kd.R_drew)); exact HO262.out) hb); have n1_ := Aside0.mk (below_step (by repeat (first | (with_reducible first | exact HB.out | apply below_alloc | apply pw_below_drewN | apply below_drew1) | exact HB.out)) hb); clear HO262; clear HB; have HO262 := n0_; have HB := n1_; clear n0_ n1_; (try clear hb); (try clear hb2); (try clear hk); (try clear hi)) | (go_at_call 15; (with_reducible refine (recensionlaw6_same.calls k ((⟨#[34, 120]⟩ : ByteArray) ++ (strOfNums y260)) t266 _ (Aside0.mk (tabs_at hT.out (by repeat (first | (with_reducible first | exact HB.out | apply below_alloc | apply pw_below_drewN | apply below_drew1) | exact HB.out)))) A16.out).mono ?_); rintro e w25 ⟨rfl, hb⟩; have n0_ := Aside0.mk (Kd.R_below (by (with_reducible repeat (first | apply Kd.R_alloc | apply Kd.R_drewN | apply Kd.R_drew)); exact HO262.out) hb); have n1_ := Aside0.mk (below_step (by repeat (first | (with_reducible first | exact HB.out | apply below_alloc | apply pw_below_drewN | apply below_drew1) | exact HB.out)) hb); clear HO262; clear HB; have HO262 := n0_; have HB := n1_; clear n0_ n1_; (try clear hb); (try clear hb2); (try clear hk); (try clear hi)))
        go_ret
        exact ⟨by first | rfl | (simp [errW_none, errW_some] <;> rfl) | (simp [*, errW_none, errW_some] <;> rfl), by repeat (first | (with_reducible first | exact HB.out | apply below_alloc | apply pw_below_drewN | apply below_drew1) | exact HB.out)⟩
       ·replace c15 := Bool.eq_false_iff.mpr c15
        subst c15
        have H1 : (some false) = some r := by rw [if_neg (show ¬ (false = true) by decide)] at H; exact H
        clear H
        have H := H1
        clear H1
        exact absurd (H.trans (congrArg some hrt.out)) (by simp)
      ·rw [if_neg c13] at H
       exact absurd H (by simp)
     ·rw [if_neg c12] at H
      exact absurd H (by simp)
    ·replace c11 := Bool.eq_false_iff.mpr c11
     subst c11
     have H1 : (some false) = some r := by rw [if_neg (show ¬ (false = true) by decide)] at H; exact H
     clear H
     have H := H1
     clear H1
     exact absurd (H.trans (congrArg some hrt.out)) (by simp)
   ·rw [if_neg c9] at H
    exact absurd H (by simp)
  ·replace c8 := Bool.eq_false_iff.mpr c8
   subst c8
   have H1 : (some false) = some r := by rw [if_neg (show ¬ (false = true) by decide)] at H; exact H
   clear H
   have H := H1
   clear H1
   exact absurd (H.trans (congrArg some hrt.out)) (by simp)
 ·replace c6 := Bool.eq_false_iff.mpr c6
  subst c6
  have H1 : (some false) = some r := by rw [if_neg (show ¬ (false = true) by decide)] at H; exact H
  clear H
  have H := H1
  clear H1
  exact absurd (H.trans (congrArg some hrt.out)) (by simp)

/-- THE ONE PURE STATEMENT of recensionlaw6_ScanBytes: yours. -/
def recensionlaw6_ScanBytes.Pure : Prop := ∀ (a0 : Int) (a1 : Int) (a2 : Int) (a3 : Int), (Lit.int .u8 a0).wf = true → (Lit.int .u8 a1).wf = true → (Lit.int .u8 a2).wf = true → (Lit.int .u8 a3).wf = true → ∃ k, recensionlaw6_ScanBytes.f k a0 a1 a2 a3 = some true
theorem recensionlaw6_ScanBytes.walk (P : recensionlaw6_ScanBytes.Pure) (a0 : Int) (a1 : Int) (a2 : Int) (a3 : Int) (w : World) (w0 : (Lit.int .u8 a0).wf = true) (w1 : (Lit.int .u8 a1).wf = true) (w2 : (Lit.int .u8 a2).wf = true) (w3 : (Lit.int .u8 a3).wf = true) (hT : Tabs w) :
  Calls Tryd.prog 7 #[.int .u8 a0, .int .u8 a1, .int .u8 a2, .int .u8 a3] w fun e w' => e = .returned (.bool true) ∧ Below w.heap.size w w' := by
 obtain ⟨k, h⟩ := P a0 a1 a2 a3 w0 w1 w2 w3
 refine (recensionlaw6_ScanBytes.calls k a0 a1 a2 a3 true w ⟨rfl⟩ ⟨hT⟩ h).mono ?_
 rintro e w' ⟨rfl, hd⟩
 exact ⟨rfl, hd⟩

end Go.Proofs.YtohhnblaoihgbaaDoor.PScan
