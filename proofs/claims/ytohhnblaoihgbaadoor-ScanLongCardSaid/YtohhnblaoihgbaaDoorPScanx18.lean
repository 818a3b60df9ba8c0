-- Written by myprint.py (the prover's own turn of the printer); not trusted: Lean checks it.
import Derived.Test.YtohhnblaoihgbaaDoorPScanx0
import Derived.Test.YtohhnblaoihgbaaDoorPScanx6
import Derived.Test.YtohhnblaoihgbaaDoorPScanx17
namespace Go.Proofs.YtohhnblaoihgbaaDoor.PScan
open Go.RowKit Go.Proofs.YtohhnblaoihgbaaDoorW.PrintWords Go.Proofs.YtohhnblaoihgbaaDoorW.PrintLast Go.Proofs.YtohhnblaoihgbaaDoorW.PrintMore
attribute [local go_sem] str_leq op_leq op_gtr op_geq max2_int min2_int max_two min_two max_three min_three max_four min_four   -- for this text's walks alone
set_option linter.unusedVariables false
set_option linter.unusedSimpArgs false

/-! ### recensionlaw6_ScanLong: function 9 -/
mutual
def recensionlaw6_ScanLong.j0 : Nat → Int → ByteArray → Bool → Option (Bool)
 | 0, _, _, _ => none
 | k + 1, x0, x1, x18 => if x18 = true then (some true) else (if 0 ≤ x0 then (if (x0 : Int).toNat ≤ 281474976710656 then ((some (List.replicate (x0 : Int).toNat 0 : List Int)).bind fun y269 => (recensionlaw6_ScanLong.l0 k x1 y269 (y269.length : Int) 0)) else (none)) else (none))
def recensionlaw6_ScanLong.l0 : Nat → ByteArray → List Int → Int → Int → Option (Bool)
 | 0, _, _, _, _ => none
 | k + 1, x1, x6, x22, x23 => if x23 < x22 then (if 0 ≤ x23 then (if x23 < (x6.length : Int) then (recensionlaw6_ScanLong.l0 k x1 (x6.set (x23 : Int).toNat 32) x22 (wrap64 (x23 + 1))) else (none)) else (none)) else (if x1.size + (strOfNums x6).size ≤ 9223372036854775807 then ((recensionlaw6_same.f k (x1 ++ (strOfNums x6))).bind fun t273 => (if t273 = true then (if (strOfNums x6).size + x1.size ≤ 9223372036854775807 then ((recensionlaw6_same.f k ((strOfNums x6) ++ x1)).bind fun t274 => (some t274)) else (none)) else (some false))) else (none))
end
def recensionlaw6_ScanLong.f (k : Nat) (a0 : Int) (a1 : ByteArray) : Option (Bool) := (recensionlaw6_begun.f).bind fun t267 => (if t267 = true then ((recensionlaw3_Cut.f a1 20).bind fun t268 => (if a0 < 0 then (recensionlaw6_ScanLong.j0 k a0 t268 true) else (recensionlaw6_ScanLong.j0 k a0 t268 (decide (a0 > 2100))))) else (some false))
theorem recensionlaw6_ScanLong.mono_l : ∀ k, (∀ y0 y1 y2, LeO (recensionlaw6_ScanLong.j0 k y0 y1 y2) (recensionlaw6_ScanLong.j0 (k + 1) y0 y1 y2)) ∧ (∀ y0 y1 y2 y3, LeO (recensionlaw6_ScanLong.l0 k y0 y1 y2 y3) (recensionlaw6_ScanLong.l0 (k + 1) y0 y1 y2 y3))
 | 0 => ⟨fun _ _ _ r h => by simp [recensionlaw6_ScanLong.j0] at h, fun _ _ _ _ r h => by simp [recensionlaw6_ScanLong.l0] at h⟩
 | k + 1 => by
  obtain ⟨ih0, ih1⟩ := recensionlaw6_ScanLong.mono_l k
  refine ⟨?_, ?_⟩
  ·intro y0 y1 y2
   unfold recensionlaw6_ScanLong.j0
   repeat' first
   | (with_reducible exact ih0 _ _ _)
   | (with_reducible exact ih1 _ _ _ _)
   | (with_reducible exact recensionlaw6_same.mono _ _)
   | (with_reducible exact LeO.refl _)
   | (with_reducible exact LeO.none _)
   | (with_reducible refine LeO.ite ?_ ?_)
   | (with_reducible refine LeO.bind ?_ (fun _ => ?_))
   | exact ih0 _ _ _
   | exact ih1 _ _ _ _
   | exact recensionlaw6_same.mono _ _
   | exact LeO.none _
   | refine LeO.ite ?_ ?_
   | refine LeO.bind ?_ (fun _ => ?_)
  ·intro y0 y1 y2 y3
   unfold recensionlaw6_ScanLong.l0
   repeat' first
   | (with_reducible exact ih0 _ _ _)
   | (with_reducible exact ih1 _ _ _ _)
   | (with_reducible exact recensionlaw6_same.mono _ _)
   | (with_reducible exact LeO.refl _)
   | (with_reducible exact LeO.none _)
   | (with_reducible refine LeO.ite ?_ ?_)
   | (with_reducible refine LeO.bind ?_ (fun _ => ?_))
   | exact ih0 _ _ _
   | exact ih1 _ _ _ _
   | exact recensionlaw6_same.mono _ _
   | exact LeO.none _
   | refine LeO.ite ?_ ?_
   | refine LeO.bind ?_ (fun _ => ?_)
theorem recensionlaw6_ScanLong.mono : ∀ a0 a1 k, LeO (recensionlaw6_ScanLong.f k a0 a1) (recensionlaw6_ScanLong.f (k + 1) a0 a1) := by
 intro a0 a1 k
 obtain ⟨ih0, ih1⟩ := recensionlaw6_ScanLong.mono_l k
 unfold recensionlaw6_ScanLong.f
 repeat' first
   | (with_reducible exact ih0 _ _ _)
   | (with_reducible exact ih1 _ _ _ _)
   | (with_reducible exact recensionlaw6_same.mono _ _)
   | (with_reducible exact LeO.refl _)
   | (with_reducible exact LeO.none _)
   | (with_reducible refine LeO.ite ?_ ?_)
   | (with_reducible refine LeO.bind ?_ (fun _ => ?_))
   | exact ih0 _ _ _
   | exact ih1 _ _ _ _
   | exact recensionlaw6_same.mono _ _
   | exact LeO.none _
   | refine LeO.ite ?_ ?_
   | refine LeO.bind ?_ (fun _ => ?_)
set_option maxHeartbeats 8000000 in
set_option maxRecDepth 100000 in
theorem recensionlaw6_ScanLong.calls (k : Nat) (a0 : Int) (a1 : ByteArray) (r : Bool) (w : World) (hrt : Aside0 (r = true)) (hT : Aside0 (Tabs w)) (h : recensionlaw6_ScanLong.f k a0 a1 = some r) :
  Calls Tryd.prog 9 #[.int .i64 a0, .string a1] w fun e w' => e = .returned (.bool r) ∧ Below w.heap.size w w' := by
 have HB := Aside0.mk (Below.refl w.heap.size w)
 have H : ((recensionlaw6_begun.f).bind fun t267 => (if t267 = true then ((recensionlaw3_Cut.f a1 20).bind fun t268 => (if a0 < 0 then (recensionlaw6_ScanLong.j0 k a0 t268 true) else (recensionlaw6_ScanLong.j0 k a0 t268 (decide (a0 > 2100))))) else (some false))) = some r := h
 clear h
 replace H := Option.bind_eq_some_iff.mp H
 obtain ⟨t267, A30, H⟩ := H
 replace H : (if t267 = true then ((recensionlaw3_Cut.f a1 20).bind fun t268 => (if a0 < 0 then (recensionlaw6_ScanLong.j0 k a0 t268 true) else (recensionlaw6_ScanLong.j0 k a0 t268 (decide (a0 > 2100))))) else (some false)) = some r := H
 have A3 := Aside0.mk A30
 clear A30
 by_cases c4 : t267 = true
 ·subst c4
  have H1 : ((recensionlaw3_Cut.f a1 20).bind fun t268 => (if a0 < 0 then (recensionlaw6_ScanLong.j0 k a0 t268 true) else (recensionlaw6_ScanLong.j0 k a0 t268 (decide (a0 > 2100))))) = some r := by rw [if_pos rfl] at H; exact H
  clear H
  have H := H1
  clear H1
  replace H := Option.bind_eq_some_iff.mp H
  obtain ⟨t268, A50, H⟩ := H
  replace H : (if a0 < 0 then (recensionlaw6_ScanLong.j0 k a0 t268 true) else (recensionlaw6_ScanLong.j0 k a0 t268 (decide (a0 > 2100)))) = some r := H
  have A5 := Aside0.mk A50
  clear A50
  have HC6 := Aside0.mk H
  clear H
  go_enter Tryd.func9, Tryd.ntmps9
  go_upto_region 5 with (first | ((with_reducible refine gate_callee (f := 13) rfl ?_); refine goesL_ (some 8) rfl rfl Tryd.func13 (by kernel_rfl) rfl #[] rfl (by (try simp only [List.map_toArray, List.map_cons, List.map_nil]); first | done | rfl | (simp only [List.length_drop, List.length_take]; rfl) | (simp only [wrap64_wl, wrap64_wr]; rfl)) ?_; (with_reducible refine (recensionlaw6_begun.calls  true _ (Aside0.mk (tabs_at hT.out (by repeat (first | (with_reducible first | exact HB.out | apply below_alloc | apply pw_below_drewN | apply below_drew1) | exact HB.out)))) A3.out).mono ?_); rintro e w7 ⟨rfl, hb⟩; refine ⟨_, rfl, ?_⟩; have n0_ := Aside0.mk (below_step (by repeat (first | (with_reducible first | exact HB.out | apply below_alloc | apply pw_below_drewN | apply below_drew1) | exact HB.out)) hb); clear HB; have HB := n0_; clear n0_; (try clear hb); (try clear hb2); (try clear hk); (try clear hi)) | ((with_reducible refine gate_callee (f := 16) rfl ?_); refine goesL_ (some 12) rfl rfl Tryd.func16 (by kernel_rfl) rfl #[.string a1, .int .i64 20] rfl (by (try simp only [List.map_toArray, List.map_cons, List.map_nil]); first | done | rfl | (simp only [List.length_drop, List.length_take]; rfl) | (simp only [wrap64_wl, wrap64_wr]; rfl)) ?_; (with_reducible refine (recensionlaw3_Cut.calls a1 20 t268 _ A5.out).mono ?_); rintro e w' ⟨rfl, ⟨nd, rfl⟩⟩; refine ⟨_, rfl, ?_⟩))
  (try simp only [Act.put, List.setIfInBounds_toArray, List.set_cons_zero, List.set_cons_succ])
  go_cut [18] (fun v18 wc => ∃ (kq : Nat) (x18_5 : Bool), v18 = .bool x18_5 ∧ Aside0 (recensionlaw6_ScanLong.j0 kq a0 t268 x18_5 = some r) ∧ Aside0 (kq ≤ k) ∧ Aside0 (Below w.heap.size w wc))
  case first =>
   have H := HC6.out
   clear HC6
   by_cases c8 : a0 < 0
   ·rw [if_pos c8] at H
    have c8b0 : decide (a0 < 0) = true := decide_eq_true c8
    clear c8
    (first | rw [c8b0] | (simp only [i64_w, i32_w]; rw [c8b0]) | skip)
    have H' := Aside0.mk H
    clear H
    go_wp2
    go_meet
    case rel => exact ⟨_, (true), (by first | rfl | (simp; done) | (simp [*]; done)), H', ⟨by first | omega | exact Nat.le_refl _⟩, ⟨by repeat (first | (with_reducible first | exact HB.out | apply below_alloc | apply pw_below_drewN | apply below_drew1) | exact HB.out)⟩⟩
   ·rw [if_neg c8] at H
    have c8b0 : decide (a0 < 0) = false := decide_eq_false c8
    clear c8
    (first | rw [c8b0] | (simp only [i64_w, i32_w]; rw [c8b0]) | skip)
    have H' := Aside0.mk H
    clear H
    go_wp2
    go_meet
    case rel => exact ⟨_, (decide (a0 > 2100)), (by first | rfl | (simp; done) | (simp [*]; done)), H', ⟨by first | omega | exact Nat.le_refl _⟩, ⟨by repeat (first | (with_reducible first | exact HB.out | apply below_alloc | apply pw_below_drewN | apply below_drew1) | exact HB.out)⟩⟩
  case rest =>
   clear HC6
   try clear c1
   try clear p2
   try clear c4
   try clear p6
   try clear c8
   try clear c8b0
   obtain ⟨kq, x18_5, rfl, HA, HJ5, HB⟩ := hcut
   cases kq with
   | zero => exact absurd HA.out (by simp [recensionlaw6_ScanLong.j0])
   | succ kj5 =>
    have H := HA.out
    clear HA
    simp only [recensionlaw6_ScanLong.j0] at H
    by_cases c9 : x18_5 = true
    ·subst c9
     have H1 : (some true) = some r := by rw [if_pos rfl] at H; exact H
     clear H
     have H := H1
     clear H1
     obtain rfl := Option.some.inj H
     go_wp2
     go_ret
     exact ⟨by first | rfl | (simp [errW_none, errW_some] <;> rfl) | (simp [*, errW_none, errW_some] <;> rfl), by repeat (first | (with_reducible first | exact HB.out | apply below_alloc | apply pw_below_drewN | apply below_drew1) | exact HB.out)⟩
    ·replace c9 := Bool.eq_false_iff.mpr c9
     subst c9
     have H1 : (if 0 ≤ a0 then (if (a0 : Int).toNat ≤ 281474976710656 then ((some (List.replicate (a0 : Int).toNat 0 : List Int)).bind fun y269 => (recensionlaw6_ScanLong.l0 kj5 t268 y269 (y269.length : Int) 0)) else (none)) else (none)) = some r := by rw [if_neg (show ¬ (false = true) by decide)] at H; exact H
     clear H
     have H := H1
     clear H1
     by_cases c10 : 0 ≤ a0
     ·rw [if_pos c10] at H
      have c10b0 := eq_true c10
      have c10b1 : decide (0 ≤ a0) = true := decide_eq_true c10
      clear c10
      by_cases c11 : (a0 : Int).toNat ≤ 281474976710656
      ·rw [if_pos c11] at H
       have c11b0 := eq_true c11
       have c11b1 : decide ((a0 : Int).toNat ≤ 281474976710656) = true := decide_eq_true c11
       clear c11
       obtain ⟨y269, hy269⟩ : ∃ y_ : List Int, y_ = (List.replicate (a0 : Int).toNat 0) := ⟨_, rfl⟩
       replace H : (recensionlaw6_ScanLong.l0 kj5 t268 y269 (y269.length : Int) 0) = some r := by first | (rw [hy269]; with_reducible exact H) | (have H2_ := (Option.bind_some _ _).symm.trans H; rw [hy269]; with_reducible exact H2_) | (have H2_ := (Option.bind_some _ _).symm.trans H; with_reducible exact H2_) | with_reducible exact H | (rw [hy269]; exact H) | exact H
       have Ny269 := Aside0.mk hy269
       clear hy269
       have H' := Aside0.mk H
       clear H
       go_wp2_with (first | ((with_reducible refine gate_dst (N := 20) rfl ?_); refine Kd.R_make (Kd.int .u8) _ 5 rfl (N := 20) rfl 23 _ _ rfl a0 rfl rfl Tryd.underlying23 (.int .u8 0) 1 info5 rfl (by decide) (by omega) 0 (ok := fun _ => True) (okp := fun _ => True) rfl (fun _ hk => hk) trivial (of_decide_eq_true (by first | (with_reducible assumption) | assumption)) (Nat.le_trans (Nat.mul_le_mul_right _ (of_decide_eq_true (by first | (with_reducible assumption) | assumption) : a0.toNat ≤ 281474976710656)) (by omega)) (Below.refl _ _) (Nat.le_refl _) ?_; intro v270 w12 ho13 hb hg_ hnew_; clear hg_ hnew_; (first | rw [← Ny269.out] at ho13 | (simp only [Int.reduceToNat] at ho13; rw [← Ny269.out] at ho13)); have n0_ := Aside0.mk (Kd.R_lower ho13 (below_size (by repeat (first | (with_reducible first | exact HB.out | apply below_alloc | apply pw_below_drewN | apply below_drew1) | exact HB.out)))); have n1_ := Aside0.mk (below_step (by repeat (first | (with_reducible first | exact HB.out | apply below_alloc | apply pw_below_drewN | apply below_drew1) | exact HB.out)) hb); clear HB; have HO271 := n0_; have HB := n1_; clear n0_ n1_; clear hb ho13; obtain ⟨Ao14, co14, eo14⟩ := Kd.R_slice HO271.out; subst eo14))
       go_loopg [23] kj5 (fun kq v23 w' => ∃ (x6_2 : List Int) (x23_2 : Int), v23 = .int .i64 x23_2 ∧ Aside0 (recensionlaw6_ScanLong.l0 kq t268 x6_2 (y269.length : Int) x23_2 = some r) ∧ Aside0 (kq ≤ kj5) ∧ Aside0 (Kd.R (Kd.int .u8) 5 w' w.heap.size (fun _ => True) (.slice Ao14 y269.length co14) x6_2) ∧ Aside0 (Below w.heap.size w w'))
       case atStart => exact ⟨(y269), (0), (by first | rfl | (simp; done) | (simp [*]; done)), H', ⟨Nat.le_refl _⟩, ⟨by (with_reducible repeat (first | apply Kd.R_alloc | apply Kd.R_drewN | apply Kd.R_drew)); exact HO271.out⟩, ⟨by repeat (first | (with_reducible first | exact HB.out | apply below_alloc | apply pw_below_drewN | apply below_drew1) | exact HB.out)⟩⟩
       case round =>
        clear H'
        try clear c1
        try clear p2
        try clear c4
        try clear p6
        try clear c8
        try clear c8b0
        try clear c9
        try clear c10
        try clear c10b0
        try clear c10b1
        try clear c11
        try clear c11b0
        try clear c11b1
        try clear c13
        try clear p2
        try clear p6
        obtain ⟨x6_2, x23_2, rfl, HA, HK2, HO_6, HB⟩ := hrel
        have hl6_2 := (Kd.R_reads' HO_6.out).1
        rw [hl6_2] at HO_6
        (try simp only [hl6_2])
        cases gk with
        | zero => exact absurd HA.out (by simp [recensionlaw6_ScanLong.l0])
        | succ k2 =>
         have H := HA.out
         clear HA
         simp only [recensionlaw6_ScanLong.l0] at H
         by_cases c15 : x23_2 < (y269.length : Int)
         ·rw [if_pos c15] at H
          have c15b0 : decide (x23_2 < (y269.length : Int)) = true := decide_eq_true c15
          (try (have c15b0h := c15b0; simp only [hl6_2] at c15b0h))
          clear c15
          by_cases c16 : 0 ≤ x23_2
          ·rw [if_pos c16] at H
           have c16b0 : decide (0 ≤ x23_2) = true := decide_eq_true c16
           clear c16
           by_cases c17 : x23_2 < (x6_2.length : Int)
           ·rw [if_pos c17] at H
            have c17b0 : decide (x23_2 < (x6_2.length : Int)) = true := decide_eq_true c17
            (try (have c17b0h := c17b0; simp only [hl6_2] at c17b0h))
            clear c17
            obtain ⟨y272, hy272⟩ : ∃ y_ : List Int, y_ = (x6_2.set (x23_2 : Int).toNat 32) := ⟨_, rfl⟩
            replace H : (recensionlaw6_ScanLong.l0 k2 t268 y272 (y269.length : Int) (wrap64 (x23_2 + 1))) = some r := by first | (rw [hy272]; with_reducible exact H) | (have H2_ := (Option.bind_some _ _).symm.trans H; rw [hy272]; with_reducible exact H2_) | (have H2_ := (Option.bind_some _ _).symm.trans H; with_reducible exact H2_) | with_reducible exact H | (rw [hy272]; exact H) | exact H
            have Ny272 := Aside0.mk hy272
            clear hy272
            have H' := Aside0.mk H
            clear H
            have p18 : 0 ≤ (x23_2 : Int) := of_decide_eq_true (by first | (with_reducible assumption) | assumption)
            have q18 : (x23_2 : Int) < ((x6_2.length : Int) : Int) := of_decide_eq_true (by first | (with_reducible assumption) | assumption)
            obtain ⟨go18, co18, eo18, gb18, gl18, cl18, HG18⟩ := Kd.R_form HO_6.out (by omega)
            (first | cases eo18 | (injection eo18 with ea_ en_ ec_; (first | subst ea_ | (injection ea_ with ea_; subst ea_)); subst ec_; clear en_))
            have GB18 := Aside0.mk gb18
            have GG18 := Aside0.mk HG18
            clear gb18 gl18 HG18
            obtain ⟨hx18_0, hf18_0⟩ := Kd.R_celln 0 HO_6.out (x23_2 : Int) p18 q18
            replace p18 := eq_true p18
            replace q18 := eq_true q18
            have HP19 := Kd.R_putg HO_6.out (x23_2 : Int) 32
            go_wp2_with (first | ((with_reducible refine gate_store (t := 5) (p := 28) rfl ?_); refine store_event (t := 5) (p := 28) (v := ?vo_w20) (w1 := (wr.setCell ⟨go18, (x23_2 : Int).toNat, none⟩ (.int .u8 32))) ?hg ?ho ?hn ?hr ?_; (case ho => rfl); (case hg => rfl); (case hn => rfl); (case hr => first | (go_simp; done) | (go_simp; rfl)); intro w20 hw; have hg : wr.grownBy w20 (some go18) := (by rw [hw]; exact HP19.2); have hp_ : Kd.R (Kd.int .u8) 5 w20 w.heap.size (fun _ => True) (.slice (some ⟨go18, 0, none⟩) x6_2.length co14) y272 := (by rw [hw, Ny272.out]; exact HP19.1); clear HP19; have n0_ := Aside0.mk (hp_); have n1_ := Aside0.mk ((by rw [hw]; exact below_set (HB.out) GB18.out : Below w.heap.size w w20)); clear HO_6; clear HB; have HO_6 := n0_; have HB := n1_; clear n0_ n1_; clear hg hw hp_))
            (try simp only [← hl6_2])
            go_roundg k2
            case measure => have := HJ5.out; have := HK2.out; omega
            case rel => exact ⟨(y272), (wrap64 (x23_2 + 1)), (by first | rfl | (simp; done) | (simp [*]; done)), H', ⟨by have := HJ5.out; have := HK2.out; omega⟩, ⟨by (try simp only [hl6_2]); (with_reducible repeat (first | apply Kd.R_alloc | apply Kd.R_drewN | apply Kd.R_drew)); exact HO_6.out⟩, ⟨by repeat (first | (with_reducible first | exact HB.out | apply below_alloc | apply pw_below_drewN | apply below_drew1) | exact HB.out)⟩⟩
           ·rw [if_neg c17] at H
            exact absurd H (by simp)
          ·rw [if_neg c16] at H
           exact absurd H (by simp)
         ·rw [if_neg c15] at H
          have c15b0 : decide (x23_2 < (y269.length : Int)) = false := decide_eq_false c15
          (try (have c15b0h := c15b0; simp only [hl6_2] at c15b0h))
          clear c15
          by_cases c21 : t268.size + (strOfNums x6_2).size ≤ 9223372036854775807
          ·rw [if_pos c21] at H
           have c21b0 := eq_true c21
           have c21b1 : decide (t268.size + (strOfNums x6_2).size ≤ 9223372036854775807) = true := decide_eq_true c21
           try have c21b2 : (9223372036854775807 < t268.size + (strOfNums x6_2).size) = False := eq_false (Nat.not_lt.2 c21)
           replace H := Option.bind_eq_some_iff.mp H
           obtain ⟨t273, A220, H⟩ := H
           replace H : (if t273 = true then (if (strOfNums x6_2).size + t268.size ≤ 9223372036854775807 then ((recensionlaw6_same.f k2 ((strOfNums x6_2) ++ t268)).bind fun t274 => (some t274)) else (none)) else (some false)) = some r := H
           have A22 := Aside0.mk A220
           clear A220
           by_cases c23 : t273 = true
           ·subst c23
            have H1 : (if (strOfNums x6_2).size + t268.size ≤ 9223372036854775807 then ((recensionlaw6_same.f k2 ((strOfNums x6_2) ++ t268)).bind fun t274 => (some t274)) else (none)) = some r := by rw [if_pos rfl] at H; exact H
            clear H
            have H := H1
            clear H1
            by_cases c24 : (strOfNums x6_2).size + t268.size ≤ 9223372036854775807
            ·rw [if_pos c24] at H
             have c24b0 := eq_true c24
             have c24b1 : decide ((strOfNums x6_2).size + t268.size ≤ 9223372036854775807) = true := decide_eq_true c24
             try have c24b2 : (9223372036854775807 < (strOfNums x6_2).size + t268.size) = False := eq_false (Nat.not_lt.2 c24)
             replace H := Option.bind_eq_some_iff.mp H
             obtain ⟨t274, A250, H⟩ := H
             replace H : (some t274) = some r := H
             have A25 := Aside0.mk A250
             clear A250
             obtain rfl := Option.some.inj H
             have hcv26 := own_string (P := Tryd.prog) Tryd.underlying23 Tryd.underlying5 Tryd.underlying9 (Kd.own_of_R HO_6.out)
             have hcv27 := fun nd_ : Nat => own_string (P := Tryd.prog) Tryd.underlying23 Tryd.underlying5 Tryd.underlying9 (Kd.own_of_R (Kd.R_drewN HO_6.out nd_))
             go_wp2_with (first | ((with_reducible refine gate_callee (f := 15) rfl ?_); refine goesL_ (some 34) rfl rfl Tryd.func15 (by kernel_rfl) rfl #[.string (t268 ++ (strOfNums x6_2))] rfl (by (try simp only [List.map_toArray, List.map_cons, List.map_nil]); first | done | rfl | (simp only [List.length_drop, List.length_take]; rfl) | (simp only [wrap64_wl, wrap64_wr]; rfl)) ?_; (with_reducible refine (recensionlaw6_same.calls k2 (t268 ++ (strOfNums x6_2)) true _ (Aside0.mk (tabs_at hT.out (by repeat (first | (with_reducible first | exact HB.out | apply below_alloc | apply pw_below_drewN | apply below_drew1) | exact HB.out)))) A22.out).mono ?_); rintro e w28 ⟨rfl, hb⟩; refine ⟨_, rfl, ?_⟩; have n0_ := Aside0.mk (Kd.R_below (by (with_reducible repeat (first | apply Kd.R_alloc | apply Kd.R_drewN | apply Kd.R_drew)); exact HO_6.out) hb); have n1_ := Aside0.mk (below_step (by repeat (first | (with_reducible first | exact HB.out | apply below_alloc | apply pw_below_drewN | apply below_drew1) | exact HB.out)) hb); clear HO_6; clear HB; have HO_6 := n0_; have HB := n1_; clear n0_ n1_; (try clear hb); (try clear hb2); (try clear hk); (try clear hi); have hcv29 := own_string (P := Tryd.prog) Tryd.underlying23 Tryd.underlying5 Tryd.underlying9 (Kd.own_of_R HO_6.out); have hcv30 := fun nd_ : Nat => own_string (P := Tryd.prog) Tryd.underlying23 Tryd.underlying5 Tryd.underlying9 (Kd.own_of_R (Kd.R_drewN HO_6.out nd_))) | (go_at_call 15; (with_reducible refine (recensionlaw6_same.calls k2 ((strOfNums x6_2) ++ t268) t274 _ (Aside0.mk (tabs_at hT.out (by repeat (first | (with_reducible first | exact HB.out | apply below_alloc | apply pw_below_drewN | apply below_drew1) | exact HB.out)))) A25.out).mono ?_); rintro e w31 ⟨rfl, hb⟩; have n0_ := Aside0.mk (Kd.R_below (by (with_reducible repeat (first | apply Kd.R_alloc | apply Kd.R_drewN | apply Kd.R_drew)); exact HO_6.out) hb); have n1_ := Aside0.mk (below_step (by repeat (first | (with_reducible first | exact HB.out | apply below_alloc | apply pw_below_drewN | apply below_drew1) | exact HB.out)) hb); clear HO_6; clear HB; have HO_6 := n0_; have HB := n1_; clear n0_ n1_; (try clear hb); (try clear hb2); (try clear hk); (try clear hi)))
             go_ret
             exact ⟨by first | rfl | (simp [errW_none, errW_some] <;> rfl) | (simp [*, errW_none, errW_some] <;> rfl), by repeat (first | (with_reducible first | exact HB.out | apply below_alloc | apply pw_below_drewN | apply below_drew1) | exact HB.out)⟩
            ·rw [if_neg c24] at H
             exact absurd H (by simp)
           ·replace c23 := Bool.eq_false_iff.mpr c23
            subst c23
            have H1 : (some false) = some r := by rw [if_neg (show ¬ (false = true) by decide)] at H; exact H
            clear H
            have H := H1
            clear H1
            exact absurd (H.trans (congrArg some hrt.out)) (by simp)
          ·rw [if_neg c21] at H
           exact absurd H (by simp)
      ·rw [if_neg c11] at H
       exact absurd H (by simp)
     ·rw [if_neg c10] at H
      exact absurd H (by simp)
 ·replace c4 := Bool.eq_false_iff.mpr c4
  subst c4
  have H1 : (some false) = some r := by rw [if_neg (show ¬ (false = true) by decide)] at H; exact H
  clear H
  have H := H1
  clear H1
  exact absurd (H.trans (congrArg some hrt.out)) (by simp)

/-- THE ONE PURE STATEMENT of recensionlaw6_ScanLong: yours. -/
def recensionlaw6_ScanLong.Pure : Prop := ∀ (a0 : Int) (a1 : ByteArray), (Lit.int .i64 a0).wf = true → a1.size ≤ 140737488351232 → ∃ k, recensionlaw6_ScanLong.f k a0 a1 = some true
theorem recensionlaw6_ScanLong.walk (P : recensionlaw6_ScanLong.Pure) (a0 : Int) (a1 : ByteArray) (w : World) (w0 : (Lit.int .i64 a0).wf = true) (w1 : a1.size ≤ 140737488351232) (hT : Tabs w) :
  Calls Tryd.prog 9 #[.int .i64 a0, .string a1] w fun e w' => e = .returned (.bool true) ∧ Below w.heap.size w w' := by
 obtain ⟨k, h⟩ := P a0 a1 w0 w1
 refine (recensionlaw6_ScanLong.calls k a0 a1 true w ⟨rfl⟩ ⟨hT⟩ h).mono ?_
 rintro e w' ⟨rfl, hd⟩
 exact ⟨rfl, hd⟩

/-! ### recensionlaw6_ScanSemis: function 10 -/
mutual
def recensionlaw6_ScanSemis.j0 : Nat → Int → Int → ByteArray → Bool → Option (Bool)
 | 0, _, _, _, _ => none
 | k + 1, x0, x1, x7, x30 => if x30 = true then (some true) else (recensionlaw6_ScanSemis.l0 k x0 x1 x7 x7 0)
def recensionlaw6_ScanSemis.l0 : Nat → Int → Int → ByteArray → ByteArray → Int → Option (Bool)
 | 0, _, _, _, _, _ => none
 | k + 1, x0, x1, x7, x8, x9 => if x9 < x1 then (if x8.size + 1 ≤ 9223372036854775807 then (recensionlaw6_ScanSemis.l0 k x0 x1 x7 (x8 ++ (⟨#[10]⟩ : ByteArray)) (wrap64 (x9 + 1))) else (none)) else ((scan_Scan.f x8).bind fun bt280 => (if bt280.2.2 ≥ 0 then (some false) else (if (Int.tmod (wrap64 ((Int.tmod x0 17) + 17)) 17) < 8 then (if (bt280.1.length : Int) = 3 then (if ((Int.tmod (wrap64 ((Int.tmod x0 17) + 17)) 17) < 8) then (if 1 < (bt280.1.length : Int) then (if ((rd_T29 bt280.1 1).f0) = 6 then (if (rd_T29 bt280.1 1).f4 = true then (if ((rd_T29 bt280.1 1).f2) = (x7.size : Int) then (some (((rd_T29 bt280.1 1).f3) == 1)) else (some false)) else (some false)) else (some false)) else (none)) else (if (bt280.1.length : Int) = 2 then (some true) else (some false))) else (some false)) else (if ((Int.tmod (wrap64 ((Int.tmod x0 17) + 17)) 17) < 8) then (if 1 < (bt280.1.length : Int) then (if ((rd_T29 bt280.1 1).f0) = 6 then (if (rd_T29 bt280.1 1).f4 = true then (if ((rd_T29 bt280.1 1).f2) = (x7.size : Int) then (some (((rd_T29 bt280.1 1).f3) == 1)) else (some false)) else (some false)) else (some false)) else (none)) else (if (bt280.1.length : Int) = 2 then (some true) else (some false))))))
end
def recensionlaw6_ScanSemis.f (k : Nat) (a0 : Int) (a1 : Int) : Option (Bool) := (recensionlaw6_begun.f).bind fun t275 => (if t275 = true then ((some (([(⟨#[97]⟩ : ByteArray), (⟨#[49]⟩ : ByteArray), (⟨#[34, 115, 34]⟩ : ByteArray), (⟨#[41]⟩ : ByteArray), (⟨#[125]⟩ : ByteArray), (⟨#[114, 101, 116, 117, 114, 110]⟩ : ByteArray), (⟨#[98, 114, 101, 97, 107]⟩ : ByteArray), (⟨#[99, 111, 110, 116, 105, 110, 117, 101]⟩ : ByteArray), (⟨#[40]⟩ : ByteArray), (⟨#[123]⟩ : ByteArray), (⟨#[44]⟩ : ByteArray), (⟨#[46]⟩ : ByteArray), (⟨#[58, 61]⟩ : ByteArray), (⟨#[43]⟩ : ByteArray), (⟨#[105, 102]⟩ : ByteArray), (⟨#[118, 97, 114]⟩ : ByteArray), (⟨#[112, 97, 99, 107, 97, 103, 101]⟩ : ByteArray)] : List ByteArray) : List ByteArray)).bind fun y276 => (if 0 ≤ (Int.tmod (wrap64 ((Int.tmod a0 17) + 17)) 17) then (if (Int.tmod (wrap64 ((Int.tmod a0 17) + 17)) 17) < (y276.length : Int) then (if a1 < 1 then (recensionlaw6_ScanSemis.j0 k a0 a1 (rdOf ByteArray.empty y276 (Int.tmod (wrap64 ((Int.tmod a0 17) + 17)) 17)) true) else (recensionlaw6_ScanSemis.j0 k a0 a1 (rdOf ByteArray.empty y276 (Int.tmod (wrap64 ((Int.tmod a0 17) + 17)) 17)) (decide (a1 > 10)))) else (none)) else (none))) else (some false))
theorem recensionlaw6_ScanSemis.mono_l : ∀ k, (∀ y0 y1 y2 y3, LeO (recensionlaw6_ScanSemis.j0 k y0 y1 y2 y3) (recensionlaw6_ScanSemis.j0 (k + 1) y0 y1 y2 y3)) ∧ (∀ y0 y1 y2 y3 y4, LeO (recensionlaw6_ScanSemis.l0 k y0 y1 y2 y3 y4) (recensionlaw6_ScanSemis.l0 (k + 1) y0 y1 y2 y3 y4))
 | 0 => ⟨fun _ _ _ _ r h => by simp [recensionlaw6_ScanSemis.j0] at h, fun _ _ _ _ _ r h => by simp [recensionlaw6_ScanSemis.l0] at h⟩
 | k + 1 => by
  obtain ⟨ih0, ih1⟩ := recensionlaw6_ScanSemis.mono_l k
  refine ⟨?_, ?_⟩
  ·intro y0 y1 y2 y3
   unfold recensionlaw6_ScanSemis.j0
   repeat' first
   | (with_reducible exact ih0 _ _ _ _)
   | (with_reducible exact ih1 _ _ _ _ _)
   | (with_reducible exact LeO.refl _)
   | (with_reducible exact LeO.none _)
   | (with_reducible refine LeO.ite ?_ ?_)
   | (with_reducible refine LeO.bind ?_ (fun _ => ?_))
   | exact ih0 _ _ _ _
   | exact ih1 _ _ _ _ _
   | exact LeO.none _
   | refine LeO.ite ?_ ?_
   | refine LeO.bind ?_ (fun _ => ?_)
  ·intro y0 y1 y2 y3 y4
   unfold recensionlaw6_ScanSemis.l0
   repeat' first
   | (with_reducible exact ih0 _ _ _ _)
   | (with_reducible exact ih1 _ _ _ _ _)
   | (with_reducible exact LeO.refl _)
   | (with_reducible exact LeO.none _)
   | (with_reducible refine LeO.ite ?_ ?_)
   | (with_reducible refine LeO.bind ?_ (fun _ => ?_))
   | exact ih0 _ _ _ _
   | exact ih1 _ _ _ _ _
   | exact LeO.none _
   | refine LeO.ite ?_ ?_
   | refine LeO.bind ?_ (fun _ => ?_)
theorem recensionlaw6_ScanSemis.mono : ∀ a0 a1 k, LeO (recensionlaw6_ScanSemis.f k a0 a1) (recensionlaw6_ScanSemis.f (k + 1) a0 a1) := by
 intro a0 a1 k
 obtain ⟨ih0, ih1⟩ := recensionlaw6_ScanSemis.mono_l k
 unfold recensionlaw6_ScanSemis.f
 repeat' first
   | (with_reducible exact ih0 _ _ _ _)
   | (with_reducible exact ih1 _ _ _ _ _)
   | (with_reducible exact LeO.refl _)
   | (with_reducible exact LeO.none _)
   | (with_reducible refine LeO.ite ?_ ?_)
   | (with_reducible refine LeO.bind ?_ (fun _ => ?_))
   | exact ih0 _ _ _ _
   | exact ih1 _ _ _ _ _
   | exact LeO.none _
   | refine LeO.ite ?_ ?_
   | refine LeO.bind ?_ (fun _ => ?_)
set_option maxHeartbeats 8000000 in
set_option maxRecDepth 100000 in
theorem recensionlaw6_ScanSemis.calls (k : Nat) (a0 : Int) (a1 : Int) (r : Bool) (w : World) (hrt : Aside0 (r = true)) (hT : Aside0 (Tabs w)) (h : recensionlaw6_ScanSemis.f k a0 a1 = some r) :
  Calls Tryd.prog 10 #[.int .i64 a0, .int .i64 a1] w fun e w' => e = .returned (.bool r) ∧ Below w.heap.size w w' := by
 have HB := Aside0.mk (Below.refl w.heap.size w)
 have H : ((recensionlaw6_begun.f).bind fun t275 => (if t275 = true then ((some (([(⟨#[97]⟩ : ByteArray), (⟨#[49]⟩ : ByteArray), (⟨#[34, 115, 34]⟩ : ByteArray), (⟨#[41]⟩ : ByteArray), (⟨#[125]⟩ : ByteArray), (⟨#[114, 101, 116, 117, 114, 110]⟩ : ByteArray), (⟨#[98, 114, 101, 97, 107]⟩ : ByteArray), (⟨#[99, 111, 110, 116, 105, 110, 117, 101]⟩ : ByteArray), (⟨#[40]⟩ : ByteArray), (⟨#[123]⟩ : ByteArray), (⟨#[44]⟩ : ByteArray), (⟨#[46]⟩ : ByteArray), (⟨#[58, 61]⟩ : ByteArray), (⟨#[43]⟩ : ByteArray), (⟨#[105, 102]⟩ : ByteArray), (⟨#[118, 97, 114]⟩ : ByteArray), (⟨#[112, 97, 99, 107, 97, 103, 101]⟩ : ByteArray)] : List ByteArray) : List ByteArray)).bind fun y276 => (if 0 ≤ (Int.tmod (wrap64 ((Int.tmod a0 17) + 17)) 17) then (if (Int.tmod (wrap64 ((Int.tmod a0 17) + 17)) 17) < (y276.length : Int) then (if a1 < 1 then (recensionlaw6_ScanSemis.j0 k a0 a1 (rdOf ByteArray.empty y276 (Int.tmod (wrap64 ((Int.tmod a0 17) + 17)) 17)) true) else (recensionlaw6_ScanSemis.j0 k a0 a1 (rdOf ByteArray.empty y276 (Int.tmod (wrap64 ((Int.tmod a0 17) + 17)) 17)) (decide (a1 > 10)))) else (none)) else (none))) else (some false))) = some r := h
 clear h
 replace H := Option.bind_eq_some_iff.mp H
 obtain ⟨t275, A30, H⟩ := H
 replace H : (if t275 = true then ((some (([(⟨#[97]⟩ : ByteArray), (⟨#[49]⟩ : ByteArray), (⟨#[34, 115, 34]⟩ : ByteArray), (⟨#[41]⟩ : ByteArray), (⟨#[125]⟩ : ByteArray), (⟨#[114, 101, 116, 117, 114, 110]⟩ : ByteArray), (⟨#[98, 114, 101, 97, 107]⟩ : ByteArray), (⟨#[99, 111, 110, 116, 105, 110, 117, 101]⟩ : ByteArray), (⟨#[40]⟩ : ByteArray), (⟨#[123]⟩ : ByteArray), (⟨#[44]⟩ : ByteArray), (⟨#[46]⟩ : ByteArray), (⟨#[58, 61]⟩ : ByteArray), (⟨#[43]⟩ : ByteArray), (⟨#[105, 102]⟩ : ByteArray), (⟨#[118, 97, 114]⟩ : ByteArray), (⟨#[112, 97, 99, 107, 97, 103, 101]⟩ : ByteArray)] : List ByteArray) : List ByteArray)).bind fun y276 => (if 0 ≤ (Int.tmod (wrap64 ((Int.tmod a0 17) + 17)) 17) then (if (Int.tmod (wrap64 ((Int.tmod a0 17) + 17)) 17) < (y276.length : Int) then (if a1 < 1 then (recensionlaw6_ScanSemis.j0 k a0 a1 (rdOf ByteArray.empty y276 (Int.tmod (wrap64 ((Int.tmod a0 17) + 17)) 17)) true) else (recensionlaw6_ScanSemis.j0 k a0 a1 (rdOf ByteArray.empty y276 (Int.tmod (wrap64 ((Int.tmod a0 17) + 17)) 17)) (decide (a1 > 10)))) else (none)) else (none))) else (some false)) = some r := H
 have A3 := Aside0.mk A30
 clear A30
 by_cases c4 : t275 = true
 ·subst c4
  have H1 : ((some (([(⟨#[97]⟩ : ByteArray), (⟨#[49]⟩ : ByteArray), (⟨#[34, 115, 34]⟩ : ByteArray), (⟨#[41]⟩ : ByteArray), (⟨#[125]⟩ : ByteArray), (⟨#[114, 101, 116, 117, 114, 110]⟩ : ByteArray), (⟨#[98, 114, 101, 97, 107]⟩ : ByteArray), (⟨#[99, 111, 110, 116, 105, 110, 117, 101]⟩ : ByteArray), (⟨#[40]⟩ : ByteArray), (⟨#[123]⟩ : ByteArray), (⟨#[44]⟩ : ByteArray), (⟨#[46]⟩ : ByteArray), (⟨#[58, 61]⟩ : ByteArray), (⟨#[43]⟩ : ByteArray), (⟨#[105, 102]⟩ : ByteArray), (⟨#[118, 97, 114]⟩ : ByteArray), (⟨#[112, 97, 99, 107, 97, 103, 101]⟩ : ByteArray)] : List ByteArray) : List ByteArray)).bind fun y276 => (if 0 ≤ (Int.tmod (wrap64 ((Int.tmod a0 17) + 17)) 17) then (if (Int.tmod (wrap64 ((Int.tmod a0 17) + 17)) 17) < (y276.length : Int) then (if a1 < 1 then (recensionlaw6_ScanSemis.j0 k a0 a1 (rdOf ByteArray.empty y276 (Int.tmod (wrap64 ((Int.tmod a0 17) + 17)) 17)) true) else (recensionlaw6_ScanSemis.j0 k a0 a1 (rdOf ByteArray.empty y276 (Int.tmod (wrap64 ((Int.tmod a0 17) + 17)) 17)) (decide (a1 > 10)))) else (none)) else (none))) = some r := by rw [if_pos rfl] at H; exact H
  clear H
  have H := H1
  clear H1
  obtain ⟨y276, hy276⟩ : ∃ y_ : List ByteArray, y_ = (([(⟨#[97]⟩ : ByteArray), (⟨#[49]⟩ : ByteArray), (⟨#[34, 115, 34]⟩ : ByteArray), (⟨#[41]⟩ : ByteArray), (⟨#[125]⟩ : ByteArray), (⟨#[114, 101, 116, 117, 114, 110]⟩ : ByteArray), (⟨#[98, 114, 101, 97, 107]⟩ : ByteArray), (⟨#[99, 111, 110, 116, 105, 110, 117, 101]⟩ : ByteArray), (⟨#[40]⟩ : ByteArray), (⟨#[123]⟩ : ByteArray), (⟨#[44]⟩ : ByteArray), (⟨#[46]⟩ : ByteArray), (⟨#[58, 61]⟩ : ByteArray), (⟨#[43]⟩ : ByteArray), (⟨#[105, 102]⟩ : ByteArray), (⟨#[118, 97, 114]⟩ : ByteArray), (⟨#[112, 97, 99, 107, 97, 103, 101]⟩ : ByteArray)] : List ByteArray)) := ⟨_, rfl⟩
  replace H : (if 0 ≤ (Int.tmod (wrap64 ((Int.tmod a0 17) + 17)) 17) then (if (Int.tmod (wrap64 ((Int.tmod a0 17) + 17)) 17) < (y276.length : Int) then (if a1 < 1 then (recensionlaw6_ScanSemis.j0 k a0 a1 (rdOf ByteArray.empty y276 (Int.tmod (wrap64 ((Int.tmod a0 17) + 17)) 17)) true) else (recensionlaw6_ScanSemis.j0 k a0 a1 (rdOf ByteArray.empty y276 (Int.tmod (wrap64 ((Int.tmod a0 17) + 17)) 17)) (decide (a1 > 10)))) else (none)) else (none)) = some r := by first | (rw [hy276]; with_reducible exact H) | (have H2_ := (Option.bind_some _ _).symm.trans H; rw [hy276]; with_reducible exact H2_) | (have H2_ := (Option.bind_some _ _).symm.trans H; with_reducible exact H2_) | with_reducible exact H | (rw [hy276]; exact H) | exact H
  have Ny276 := Aside0.mk hy276
  clear hy276
  obtain ⟨ji5, hji5⟩ : ∃ j_ : Int, (Int.tmod (wrap64 ((Int.tmod a0 17) + 17)) 17) = j_ := ⟨_, rfl⟩
  replace H : (if 0 ≤ (ji5) then (if (ji5) < (y276.length : Int) then (if a1 < 1 then (recensionlaw6_ScanSemis.j0 k a0 a1 (rdOf ByteArray.empty y276 (ji5)) true) else (recensionlaw6_ScanSemis.j0 k a0 a1 (rdOf ByteArray.empty y276 (ji5)) (decide (a1 > 10)))) else (none)) else (none)) = some r := by first | (rw [hji5] at H; exact H) | (simp only [hji5] at H ⊢; exact H)
  (try rw [hji5] at A3)
  by_cases c6 : 0 ≤ (ji5)
  ·rw [if_pos c6] at H
   have c6b0 : decide (0 ≤ (ji5)) = true := decide_eq_true c6
   clear c6
   by_cases c7 : (ji5) < (y276.length : Int)
   ·rw [if_pos c7] at H
    have c7b0 : decide ((ji5) < (y276.length : Int)) = true := decide_eq_true c7
    clear c7
    have HC8 := Aside0.mk H
    clear H
    go_enter Tryd.func10, Tryd.ntmps10
    go_upto_region 6 with (first | ((with_reducible refine gate_callee (f := 13) rfl ?_); refine goesL_ (some 14) rfl rfl Tryd.func13 (by kernel_rfl) rfl #[] rfl (by (try simp only [List.map_toArray, List.map_cons, List.map_nil]); first | done | rfl | (simp only [List.length_drop, List.length_take]; rfl) | (simp only [wrap64_wl, wrap64_wr]; rfl)) ?_; (with_reducible refine (recensionlaw6_begun.calls  true _ (Aside0.mk (tabs_at hT.out (by repeat (first | (with_reducible first | exact HB.out | apply below_alloc | apply pw_below_drewN | apply below_drew1) | exact HB.out)))) A3.out).mono ?_); rintro e w9 ⟨rfl, hb⟩; refine ⟨_, rfl, ?_⟩; have n0_ := Aside0.mk (below_step (by repeat (first | (with_reducible first | exact HB.out | apply below_alloc | apply pw_below_drewN | apply below_drew1) | exact HB.out)) hb); clear HB; have HB := n0_; clear n0_; (try clear hb); (try clear hb2); (try clear hk); (try clear hi)) | ((with_reducible refine gate_dst (N := 17) rfl ?_); (try (refine gate_guard (by rfl) ?_; dsimp only)); refine Kd.R_lit Kd.string _ 9 ?hg (N := 17) ?hd (xs := ([(⟨#[97]⟩ : ByteArray), (⟨#[49]⟩ : ByteArray), (⟨#[34, 115, 34]⟩ : ByteArray), (⟨#[41]⟩ : ByteArray), (⟨#[125]⟩ : ByteArray), (⟨#[114, 101, 116, 117, 114, 110]⟩ : ByteArray), (⟨#[98, 114, 101, 97, 107]⟩ : ByteArray), (⟨#[99, 111, 110, 116, 105, 110, 117, 101]⟩ : ByteArray), (⟨#[40]⟩ : ByteArray), (⟨#[123]⟩ : ByteArray), (⟨#[44]⟩ : ByteArray), (⟨#[46]⟩ : ByteArray), (⟨#[58, 61]⟩ : ByteArray), (⟨#[43]⟩ : ByteArray), (⟨#[105, 102]⟩ : ByteArray), (⟨#[118, 97, 114]⟩ : ByteArray), (⟨#[112, 97, 99, 107, 97, 103, 101]⟩ : ByteArray)] : List ByteArray)) (inner := [.string (⟨#[97]⟩ : ByteArray), .string (⟨#[49]⟩ : ByteArray), .string (⟨#[34, 115, 34]⟩ : ByteArray), .string (⟨#[41]⟩ : ByteArray), .string (⟨#[125]⟩ : ByteArray), .string (⟨#[114, 101, 116, 117, 114, 110]⟩ : ByteArray), .string (⟨#[98, 114, 101, 97, 107]⟩ : ByteArray), .string (⟨#[99, 111, 110, 116, 105, 110, 117, 101]⟩ : ByteArray), .string (⟨#[40]⟩ : ByteArray), .string (⟨#[123]⟩ : ByteArray), .string (⟨#[44]⟩ : ByteArray), .string (⟨#[46]⟩ : ByteArray), .string (⟨#[58, 61]⟩ : ByteArray), .string (⟨#[43]⟩ : ByteArray), .string (⟨#[105, 102]⟩ : ByteArray), .string (⟨#[118, 97, 114]⟩ : ByteArray), .string (⟨#[112, 97, 99, 107, 97, 103, 101]⟩ : ByteArray)]) (ok := fun _ => True) (okp := fun _ => True) ?hr ?hp (fun _ hk => hk) trivial (Below.refl _ _) (Nat.le_refl _) (by simp) ?_; (case hd => rfl); (case hg => rfl); (case hr => first | (go_simp; done) | (go_simp; rfl)); (case hp => exact (Reps.one (show Kd.M Kd.string _ _ _ (⟨#[97]⟩ : ByteArray) [.string (⟨#[97]⟩ : ByteArray)] from rfl) (Reps.one (show Kd.M Kd.string _ _ _ (⟨#[49]⟩ : ByteArray) [.string (⟨#[49]⟩ : ByteArray)] from rfl) (Reps.one (show Kd.M Kd.string _ _ _ (⟨#[34, 115, 34]⟩ : ByteArray) [.string (⟨#[34, 115, 34]⟩ : ByteArray)] from rfl) (Reps.one (show Kd.M Kd.string _ _ _ (⟨#[41]⟩ : ByteArray) [.string (⟨#[41]⟩ : ByteArray)] from rfl) (Reps.one (show Kd.M Kd.string _ _ _ (⟨#[125]⟩ : ByteArray) [.string (⟨#[125]⟩ : ByteArray)] from rfl) (Reps.one (show Kd.M Kd.string _ _ _ (⟨#[114, 101, 116, 117, 114, 110]⟩ : ByteArray) [.string (⟨#[114, 101, 116, 117, 114, 110]⟩ : ByteArray)] from rfl) (Reps.one (show Kd.M Kd.string _ _ _ (⟨#[98, 114, 101, 97, 107]⟩ : ByteArray) [.string (⟨#[98, 114, 101, 97, 107]⟩ : ByteArray)] from rfl) (Reps.one (show Kd.M Kd.string _ _ _ (⟨#[99, 111, 110, 116, 105, 110, 117, 101]⟩ : ByteArray) [.string (⟨#[99, 111, 110, 116, 105, 110, 117, 101]⟩ : ByteArray)] from rfl) (Reps.one (show Kd.M Kd.string _ _ _ (⟨#[40]⟩ : ByteArray) [.string (⟨#[40]⟩ : ByteArray)] from rfl) (Reps.one (show Kd.M Kd.string _ _ _ (⟨#[123]⟩ : ByteArray) [.string (⟨#[123]⟩ : ByteArray)] from rfl) (Reps.one (show Kd.M Kd.string _ _ _ (⟨#[44]⟩ : ByteArray) [.string (⟨#[44]⟩ : ByteArray)] from rfl) (Reps.one (show Kd.M Kd.string _ _ _ (⟨#[46]⟩ : ByteArray) [.string (⟨#[46]⟩ : ByteArray)] from rfl) (Reps.one (show Kd.M Kd.string _ _ _ (⟨#[58, 61]⟩ : ByteArray) [.string (⟨#[58, 61]⟩ : ByteArray)] from rfl) (Reps.one (show Kd.M Kd.string _ _ _ (⟨#[43]⟩ : ByteArray) [.string (⟨#[43]⟩ : ByteArray)] from rfl) (Reps.one (show Kd.M Kd.string _ _ _ (⟨#[105, 102]⟩ : ByteArray) [.string (⟨#[105, 102]⟩ : ByteArray)] from rfl) (Reps.one (show Kd.M Kd.string _ _ _ (⟨#[118, 97, 114]⟩ : ByteArray) [.string (⟨#[118, 97, 114]⟩ : ByteArray)] from rfl) (Reps.one (show Kd.M Kd.string _ _ _ (⟨#[112, 97, 99, 107, 97, 103, 101]⟩ : ByteArray) [.string (⟨#[112, 97, 99, 107, 97, 103, 101]⟩ : ByteArray)] from rfl) (Reps.none _ _))))))))))))))))))); intro v277 w10 ho11 hb hg_ hnew_; clear hg_ hnew_; (first | rw [← Ny276.out] at ho11 | (simp only [Int.reduceToNat] at ho11; rw [← Ny276.out] at ho11)); have n0_ := Aside0.mk (Kd.R_lower ho11 (below_size (by repeat (first | (with_reducible first | exact HB.out | apply below_alloc | apply pw_below_drewN | apply below_drew1) | exact HB.out)))); have n1_ := Aside0.mk (below_step (by repeat (first | (with_reducible first | exact HB.out | apply below_alloc | apply pw_below_drewN | apply below_drew1) | exact HB.out)) hb); clear HB; have HO278 := n0_; have HB := n1_; clear n0_ n1_; clear hb ho11; obtain ⟨Ao12, co12, eo12⟩ := Kd.R_slice HO278.out; subst eo12; have p279 : 0 ≤ ((ji5) : Int) := of_decide_eq_true (by first | (with_reducible assumption) | assumption); have q279 : (ji5) < (y276.length : Int) := of_decide_eq_true (by first | (with_reducible assumption) | assumption); obtain ⟨ad279, e279, hx279_0⟩ := Kd.at_string (Kd.R_reads' HO278.out).2.2 (ji5) p279 q279; cases e279; replace p279 := eq_true p279; replace q279 := eq_true q279))
    (try simp only [Act.put, List.setIfInBounds_toArray, List.set_cons_zero, List.set_cons_succ])
    go_cut [30] (fun v30 wc => ∃ (kq : Nat) (x30_7 : Bool), v30 = .bool x30_7 ∧ Aside0 (recensionlaw6_ScanSemis.j0 kq a0 a1 (rdOf ByteArray.empty y276 (ji5)) x30_7 = some r) ∧ Aside0 (kq ≤ k) ∧ Aside0 (Below w.heap.size w wc))
    case first =>
     have H := HC8.out
     clear HC8
     by_cases c13 : a1 < 1
     ·rw [if_pos c13] at H
      have c13b0 : decide (a1 < 1) = true := decide_eq_true c13
      clear c13
      (first | rw [c13b0] | (simp only [i64_w, i32_w]; rw [c13b0]) | skip)
      have H' := Aside0.mk H
      clear H
      go_wp2
      go_meet
      case rel => exact ⟨_, (true), (by first | rfl | (simp; done) | (simp [*]; done)), H', ⟨by first | omega | exact Nat.le_refl _⟩, ⟨by repeat (first | (with_reducible first | exact HB.out | apply below_alloc | apply pw_below_drewN | apply below_drew1) | exact HB.out)⟩⟩
     ·rw [if_neg c13] at H
      have c13b0 : decide (a1 < 1) = false := decide_eq_false c13
      clear c13
      (first | rw [c13b0] | (simp only [i64_w, i32_w]; rw [c13b0]) | skip)
      have H' := Aside0.mk H
      clear H
      go_wp2
      go_meet
      case rel => exact ⟨_, (decide (a1 > 10)), (by first | rfl | (simp; done) | (simp [*]; done)), H', ⟨by first | omega | exact Nat.le_refl _⟩, ⟨by repeat (first | (with_reducible first | exact HB.out | apply below_alloc | apply pw_below_drewN | apply below_drew1) | exact HB.out)⟩⟩
    case rest =>
     clear HC8
     try clear c1
     try clear p2
     try clear q2
     try clear hx2
     try clear c4
     try clear c6
     try clear c6b0
     try clear p6
     try clear c7
     try clear c7b0
     try clear c10
     try clear c13
     try clear c13b0
     try clear hx279_0
     try clear p279
     try clear q279
     obtain ⟨kq, x30_7, rfl, HA, HJ7, HB⟩ := hcut
     cases kq with
     | zero => exact absurd HA.out (by simp [recensionlaw6_ScanSemis.j0])
     | succ kj7 =>
      have H := HA.out
      clear HA
      simp only [recensionlaw6_ScanSemis.j0] at H
      by_cases c14 : x30_7 = true
      ·subst c14
       have H1 : (some true) = some r := by rw [if_pos rfl] at H; exact H
       clear H
       have H := H1
       clear H1
       obtain rfl := Option.some.inj H
       go_wp2
       go_ret
       exact ⟨by first | rfl | (simp [errW_none, errW_some] <;> rfl) | (simp only [← hji5]; first | rfl | (simp [errW_none, errW_some] <;> rfl)) | (simp [*, errW_none, errW_some] <;> rfl), by repeat (first | (with_reducible first | exact HB.out | apply below_alloc | apply pw_below_drewN | apply below_drew1) | exact HB.out)⟩
      ·replace c14 := Bool.eq_false_iff.mpr c14
       subst c14
       have H1 : (recensionlaw6_ScanSemis.l0 kj7 a0 a1 (rdOf ByteArray.empty y276 (ji5)) (rdOf ByteArray.empty y276 (ji5)) 0) = some r := by rw [if_neg (show ¬ (false = true) by decide)] at H; exact H
       clear H
       have H := H1
       clear H1
       have H' := Aside0.mk H
       clear H
       go_wp2
       go_loopg [8, 9] kj7 (fun kq v8 v9 w' => ∃ (x8_2 : ByteArray) (x9_2 : Int), v8 = .string x8_2 ∧ v9 = .int .i64 x9_2 ∧ Aside0 (recensionlaw6_ScanSemis.l0 kq a0 a1 (rdOf ByteArray.empty y276 (ji5)) x8_2 x9_2 = some r) ∧ Aside0 (kq ≤ kj7) ∧ Aside0 (Below w.heap.size w w'))
       case atStart => exact ⟨((rdOf ByteArray.empty y276 (ji5))), (0), (by first | rfl | (simp; done) | (simp only [← hji5] <;> (first | rfl | simp)) | (simp [*]; done)), (by first | rfl | (simp; done) | (simp [*]; done)), H', ⟨Nat.le_refl _⟩, ⟨by repeat (first | (with_reducible first | exact HB.out | apply below_alloc | apply pw_below_drewN | apply below_drew1) | exact HB.out)⟩⟩
       case round =>
        clear H'
        try clear c1
        try clear p2
        try clear q2
        try clear hx2
        try clear c4
        try clear c6
        try clear c6b0
        try clear p6
        try clear c7
        try clear c7b0
        try clear c10
        try clear c13
        try clear c13b0
        try clear c14
        try clear hx279_0
        try clear p2
        try clear p279
        try clear p6
        try clear q2
        try clear q279
        obtain ⟨x8_2, x9_2, rfl, rfl, HA, HK2, HB⟩ := hrel
        cases gk with
        | zero => exact absurd HA.out (by simp [recensionlaw6_ScanSemis.l0])
        | succ k2 =>
         have H := HA.out
         clear HA
         simp only [recensionlaw6_ScanSemis.l0] at H
         by_cases c15 : x9_2 < a1
         ·rw [if_pos c15] at H
          have c15b0 : decide (x9_2 < a1) = true := decide_eq_true c15
          clear c15
          by_cases c16 : x8_2.size + 1 ≤ 9223372036854775807
          ·rw [if_pos c16] at H
           have c16b0 := eq_true c16
           have c16b1 : decide (x8_2.size + 1 ≤ 9223372036854775807) = true := decide_eq_true c16
           try have c16b2 : (9223372036854775807 < x8_2.size + 1) = False := eq_false (Nat.not_lt.2 c16)
           have H' := Aside0.mk H
           clear H
           go_wp2
           go_roundg k2
           case measure => have := HJ7.out; have := HK2.out; omega
           case rel => exact ⟨(x8_2 ++ (⟨#[10]⟩ : ByteArray)), (wrap64 (x9_2 + 1)), (by first | rfl | (simp; done) | (simp [*]; done)), (by first | rfl | (simp; done) | (simp [*]; done)), H', ⟨by have := HJ7.out; have := HK2.out; omega⟩, ⟨by repeat (first | (with_reducible first | exact HB.out | apply below_alloc | apply pw_below_drewN | apply below_drew1) | exact HB.out)⟩⟩
          ·rw [if_neg c16] at H
           exact absurd H (by simp)
         ·rw [if_neg c15] at H
          have c15b0 : decide (x9_2 < a1) = false := decide_eq_false c15
          clear c15
          replace H := Option.bind_eq_some_iff.mp H
          obtain ⟨⟨t280, t281, t282⟩, A170, H⟩ := H
          replace H : (if t282 ≥ 0 then (some false) else (if (Int.tmod (wrap64 ((Int.tmod a0 17) + 17)) 17) < 8 then (if (t280.length : Int) = 3 then (if ((Int.tmod (wrap64 ((Int.tmod a0 17) + 17)) 17) < 8) then (if 1 < (t280.length : Int) then (if ((rd_T29 t280 1).f0) = 6 then (if (rd_T29 t280 1).f4 = true then (if ((rd_T29 t280 1).f2) = ((rdOf ByteArray.empty y276 (ji5)).size : Int) then (some (((rd_T29 t280 1).f3) == 1)) else (some false)) else (some false)) else (some false)) else (none)) else (if (t280.length : Int) = 2 then (some true) else (some false))) else (some false)) else (if ((Int.tmod (wrap64 ((Int.tmod a0 17) + 17)) 17) < 8) then (if 1 < (t280.length : Int) then (if ((rd_T29 t280 1).f0) = 6 then (if (rd_T29 t280 1).f4 = true then (if ((rd_T29 t280 1).f2) = ((rdOf ByteArray.empty y276 (ji5)).size : Int) then (some (((rd_T29 t280 1).f3) == 1)) else (some false)) else (some false)) else (some false)) else (none)) else (if (t280.length : Int) = 2 then (some true) else (some false))))) = some r := H
          have A17 := Aside0.mk A170
          clear A170
          by_cases c18 : t282 ≥ 0
          ·rw [if_pos c18] at H
           have c18b0 : decide (0 ≤ t282) = true := decide_eq_true c18
           clear c18
           exact absurd (H.trans (congrArg some hrt.out)) (by simp)
          ·rw [if_neg c18] at H
           have c18b0 : decide (0 ≤ t282) = false := decide_eq_false c18
           clear c18
           by_cases c19 : (Int.tmod (wrap64 ((Int.tmod a0 17) + 17)) 17) < 8
           ·rw [if_pos c19] at H
            have c19b0 : decide ((Int.tmod (wrap64 ((Int.tmod a0 17) + 17)) 17) < 8) = true := decide_eq_true c19
            (try (have c19b0j := c19b0; simp only [hji5] at c19b0j))
            clear c19
            by_cases c20 : (t280.length : Int) = 3
            ·rw [if_pos c20] at H
             have c20b0 : ((t280.length : Int) == 3) = true := beq_iff_eq.mpr c20
             have c20b1 : ((t280.length : Int) != 3) = false := bne_eq_false_iff_eq.mpr c20
             clear c20
             by_cases c21 : ((Int.tmod (wrap64 ((Int.tmod a0 17) + 17)) 17) < 8)
             ·rw [if_pos c21] at H
              have c21b0 : decide ((Int.tmod (wrap64 ((Int.tmod a0 17) + 17)) 17) < 8) = true := decide_eq_true c21
              (try (have c21b0j := c21b0; simp only [hji5] at c21b0j))
              clear c21
              by_cases c22 : 1 < (t280.length : Int)
              ·rw [if_pos c22] at H
               have c22b0 : decide (1 < (t280.length : Int)) = true := decide_eq_true c22
               have c22b1 : decide (1 < t280.length) = true := decide_eq_true (by omega)
               clear c22
               by_cases c23 : ((rd_T29 t280 1).f0) = 6
               ·rw [if_pos c23] at H
                have c23b0 : (((rd_T29 t280 1).f0) == 6) = true := beq_iff_eq.mpr c23
                have c23b1 : (((rd_T29 t280 1).f0) != 6) = false := bne_eq_false_iff_eq.mpr c23
                clear c23
                obtain ⟨bq24, hbq24⟩ : ∃ b_ : Bool, b_ = ((rd_T29 t280 1).f4) := ⟨_, rfl⟩
                replace H : (if bq24 = true then (if ((rd_T29 t280 1).f2) = ((rdOf ByteArray.empty y276 (ji5)).size : Int) then (some (((rd_T29 t280 1).f3) == 1)) else (some false)) else (some false)) = some r := by rw [← hbq24] at H; exact H
                have Nbq24 := Aside0.mk hbq24
                clear hbq24
                by_cases c25 : bq24 = true
                ·subst c25
                 have H1 : (if ((rd_T29 t280 1).f2) = ((rdOf ByteArray.empty y276 (ji5)).size : Int) then (some (((rd_T29 t280 1).f3) == 1)) else (some false)) = some r := by rw [if_pos rfl] at H; exact H
                 clear H
                 have H := H1
                 clear H1
                 by_cases c26 : ((rd_T29 t280 1).f2) = ((rdOf ByteArray.empty y276 (ji5)).size : Int)
                 ·rw [if_pos c26] at H
                  have c26b0 : (((rd_T29 t280 1).f2) == ((rdOf ByteArray.empty y276 (ji5)).size : Int)) = true := beq_iff_eq.mpr c26
                  have c26b1 : (((rd_T29 t280 1).f2) != ((rdOf ByteArray.empty y276 (ji5)).size : Int)) = false := bne_eq_false_iff_eq.mpr c26
                  clear c26
                  obtain rfl := Option.some.inj H
                  go_wp2_with (first | ((with_reducible refine gate_callee (f := 14) rfl ?_); refine goesL_ (some 41) rfl rfl Tryd.func14 (by kernel_rfl) rfl #[.string x8_2] rfl (by (try simp only [List.map_toArray, List.map_cons, List.map_nil]); first | done | rfl | (simp only [List.length_drop, List.length_take]; rfl) | (simp only [wrap64_wl, wrap64_wr]; rfl)) ?_; (with_reducible refine (scan_Scan.calls x8_2 t280 t281 t282 _ (Aside0.mk (tabs_at hT.out (by repeat (first | (with_reducible first | exact HB.out | apply below_alloc | apply pw_below_drewN | apply below_drew1) | exact HB.out)))) A17.out).mono ?_); rintro e w27 ⟨v283, v285, rfl, ho0, ho1, hb⟩; refine ⟨_, rfl, ?_⟩; have n0_ := Aside0.mk (Kd.R_lower ho0 (below_size (by repeat (first | (with_reducible first | exact HB.out | apply below_alloc | apply pw_below_drewN | apply below_drew1) | exact HB.out)))); have n1_ := Aside0.mk (Kd.R_lower ho1 (below_size (by repeat (first | (with_reducible first | exact HB.out | apply below_alloc | apply pw_below_drewN | apply below_drew1) | exact HB.out)))); have n2_ := Aside0.mk (below_step (by repeat (first | (with_reducible first | exact HB.out | apply below_alloc | apply pw_below_drewN | apply below_drew1) | exact HB.out)) hb); clear HB; have HO284 := n0_; have HO286 := n1_; have HB := n2_; clear n0_ n1_ n2_; (try clear hb); (try clear hb2); (try clear hk); (try clear hi); (try clear ho0); (try clear ho1); obtain ⟨Ao28, co28, eo28⟩ := Kd.R_slice HO284.out; subst eo28; have p287 : 0 ≤ (1 : Int) := (by omega); have q287 : 1 < (t280.length : Int) := of_decide_eq_true (by first | (with_reducible assumption) | assumption); obtain ⟨ad287, e287, hx287_0, hx287_1, hx287_2, hx287_3, hx287_4⟩ := at_T29 (Kd.R_reads' HO284.out).2.2 1 p287 q287; (try rw [← Nbq24.out] at hx287_4); cases e287; (try simp only [show (1 : Int).toNat = 1 from rfl, Nat.reduceMul, Nat.reduceEqDiff, Go.Addr.add, ↓reduceIte] at hx287_0); (try simp only [show (1 : Int).toNat = 1 from rfl, Nat.reduceMul, Nat.reduceEqDiff, Go.Addr.add, ↓reduceIte] at hx287_1); (try simp only [show (1 : Int).toNat = 1 from rfl, Nat.reduceMul, Nat.reduceEqDiff, Go.Addr.add, ↓reduceIte] at hx287_2); (try simp only [show (1 : Int).toNat = 1 from rfl, Nat.reduceMul, Nat.reduceEqDiff, Go.Addr.add, ↓reduceIte] at hx287_3); (try simp only [show (1 : Int).toNat = 1 from rfl, Nat.reduceMul, Nat.reduceEqDiff, Go.Addr.add, ↓reduceIte] at hx287_4); have qi287 : (1 < t280.length) = True := eq_true (by omega); (try rw [show ((1 : Int)).toNat = 1 from rfl] at hx287_0); (try rw [show 1 * 5 = 5 from rfl] at hx287_0); (try rw [show ((1 : Int)).toNat = 1 from rfl] at hx287_1); (try rw [show 1 * 5 = 5 from rfl] at hx287_1); (try rw [show ((1 : Int)).toNat = 1 from rfl] at hx287_2); (try rw [show 1 * 5 = 5 from rfl] at hx287_2); (try rw [show ((1 : Int)).toNat = 1 from rfl] at hx287_3); (try rw [show 1 * 5 = 5 from rfl] at hx287_3); (try rw [show ((1 : Int)).toNat = 1 from rfl] at hx287_4); (try rw [show 1 * 5 = 5 from rfl] at hx287_4); replace p287 := eq_true p287; replace q287 := eq_true q287; have p288 : 0 ≤ (1 : Int) := (by omega); have q288 : 1 < (t280.length : Int) := of_decide_eq_true (by first | (with_reducible assumption) | assumption); obtain ⟨ad288, e288, hx288_0, hx288_1, hx288_2, hx288_3, hx288_4⟩ := at_T29 (Kd.R_reads' HO284.out).2.2 1 p288 q288; (try rw [← Nbq24.out] at hx288_4); obtain rfl : ad287 = ad288 := (by injection e288); (try simp only [show (1 : Int).toNat = 1 from rfl, Nat.reduceMul, Nat.reduceEqDiff, Go.Addr.add, ↓reduceIte] at hx288_0); (try simp only [show (1 : Int).toNat = 1 from rfl, Nat.reduceMul, Nat.reduceEqDiff, Go.Addr.add, ↓reduceIte] at hx288_1); (try simp only [show (1 : Int).toNat = 1 from rfl, Nat.reduceMul, Nat.reduceEqDiff, Go.Addr.add, ↓reduceIte] at hx288_2); (try simp only [show (1 : Int).toNat = 1 from rfl, Nat.reduceMul, Nat.reduceEqDiff, Go.Addr.add, ↓reduceIte] at hx288_3); (try simp only [show (1 : Int).toNat = 1 from rfl, Nat.reduceMul, Nat.reduceEqDiff, Go.Addr.add, ↓reduceIte] at hx288_4); have qi288 : (1 < t280.length) = True := eq_true (by omega); (try rw [show ((1 : Int)).toNat = 1 from rfl] at hx288_0); (try rw [show 1 * 5 = 5 from rfl] at hx288_0); (try rw [show ((1 : Int)).toNat = 1 from rfl] at hx288_1); (try rw [show 1 * 5 = 5 from rfl] at hx288_1); (try rw [show ((1 : Int)).toNat = 1 from rfl] at hx288_2); (try rw [show 1 * 5 = 5 from rfl] at hx288_2); (try rw [show ((1 : Int)).toNat = 1 from rfl] at hx288_3); (try rw [show 1 * 5 = 5 from rfl] at hx288_3); (try rw [show ((1 : Int)).toNat = 1 from rfl] at hx288_4); (try rw [show 1 * 5 = 5 from rfl] at hx288_4); replace p288 := eq_true p288; replace q288 := eq_true q288; have p289 : 0 ≤ (1 : Int) := (by omega); have q289 : 1 < (t280.length : Int) := of_decide_eq_true (by first | (with_reducible assumption) | assumption); obtain ⟨ad289, e289, hx289_0, hx289_1, hx289_2, hx289_3, hx289_4⟩ := at_T29 (Kd.R_reads' HO284.out).2.2 1 p289 q289; (try rw [← Nbq24.out] at hx289_4); obtain rfl : ad287 = ad289 := (by injection e289); (try simp only [show (1 : Int).toNat = 1 from rfl, Nat.reduceMul, Nat.reduceEqDiff, Go.Addr.add, ↓reduceIte] at hx289_0); (try simp only [show (1 : Int).toNat = 1 from rfl, Nat.reduceMul, Nat.reduceEqDiff, Go.Addr.add, ↓reduceIte] at hx289_1); (try simp only [show (1 : Int).toNat = 1 from rfl, Nat.reduceMul, Nat.reduceEqDiff, Go.Addr.add, ↓reduceIte] at hx289_2); (try simp only [show (1 : Int).toNat = 1 from rfl, Nat.reduceMul, Nat.reduceEqDiff, Go.Addr.add, ↓reduceIte] at hx289_3); (try simp only [show (1 : Int).toNat = 1 from rfl, Nat.reduceMul, Nat.reduceEqDiff, Go.Addr.add, ↓reduceIte] at hx289_4); have qi289 : (1 < t280.length) = True := eq_true (by omega); (try rw [show ((1 : Int)).toNat = 1 from rfl] at hx289_0); (try rw [show 1 * 5 = 5 from rfl] at hx289_0); (try rw [show ((1 : Int)).toNat = 1 from rfl] at hx289_1); (try rw [show 1 * 5 = 5 from rfl] at hx289_1); (try rw [show ((1 : Int)).toNat = 1 from rfl] at hx289_2); (try rw [show 1 * 5 = 5 from rfl] at hx289_2); (try rw [show ((1 : Int)).toNat = 1 from rfl] at hx289_3); (try rw [show 1 * 5 = 5 from rfl] at hx289_3); (try rw [show ((1 : Int)).toNat = 1 from rfl] at hx289_4); (try rw [show 1 * 5 = 5 from rfl] at hx289_4); replace p289 := eq_true p289; replace q289 := eq_true q289; have p290 : 0 ≤ (1 : Int) := (by omega); have q290 : 1 < (t280.length : Int) := of_decide_eq_true (by first | (with_reducible assumption) | assumption); obtain ⟨ad290, e290, hx290_0, hx290_1, hx290_2, hx290_3, hx290_4⟩ := at_T29 (Kd.R_reads' HO284.out).2.2 1 p290 q290; (try rw [← Nbq24.out] at hx290_4); obtain rfl : ad287 = ad290 := (by injection e290); (try simp only [show (1 : Int).toNat = 1 from rfl, Nat.reduceMul, Nat.reduceEqDiff, Go.Addr.add, ↓reduceIte] at hx290_0); (try simp only [show (1 : Int).toNat = 1 from rfl, Nat.reduceMul, Nat.reduceEqDiff, Go.Addr.add, ↓reduceIte] at hx290_1); (try simp only [show (1 : Int).toNat = 1 from rfl, Nat.reduceMul, Nat.reduceEqDiff, Go.Addr.add, ↓reduceIte] at hx290_2); (try simp only [show (1 : Int).toNat = 1 from rfl, Nat.reduceMul, Nat.reduceEqDiff, Go.Addr.add, ↓reduceIte] at hx290_3); (try simp only [show (1 : Int).toNat = 1 from rfl, Nat.reduceMul, Nat.reduceEqDiff, Go.Addr.add, ↓reduceIte] at hx290_4); have qi290 : (1 < t280.length) = True := eq_true (by omega); (try rw [show ((1 : Int)).toNat = 1 from rfl] at hx290_0); (try rw [show 1 * 5 = 5 from rfl] at hx290_0); (try rw [show ((1 : Int)).toNat = 1 from rfl] at hx290_1); (try rw [show 1 * 5 = 5 from rfl] at hx290_1); (try rw [show ((1 : Int)).toNat = 1 from rfl] at hx290_2); (try rw [show 1 * 5 = 5 from rfl] at hx290_2); (try rw [show ((1 : Int)).toNat = 1 from rfl] at hx290_3); (try rw [show 1 * 5 = 5 from rfl] at hx290_3); (try rw [show ((1 : Int)).toNat = 1 from rfl] at hx290_4); (try rw [show 1 * 5 = 5 from rfl] at hx290_4); replace p290 := eq_true p290; replace q290 := eq_true q290))
                  go_ret
                  exact ⟨by first | rfl | (simp [errW_none, errW_some] <;> rfl) | (simp only [← hji5]; first | rfl | (simp [errW_none, errW_some] <;> rfl)) | (simp [*, errW_none, errW_some] <;> rfl), by repeat (first | (with_reducible first | exact HB.out | apply below_alloc | apply pw_below_drewN | apply below_drew1) | exact HB.out)⟩
                 ·rw [if_neg c26] at H
                  have c26b0 : (((rd_T29 t280 1).f2) == ((rdOf ByteArray.empty y276 (ji5)).size : Int)) = false := beq_eq_false_iff_ne.mpr c26
                  have c26b1 : (((rd_T29 t280 1).f2) != ((rdOf ByteArray.empty y276 (ji5)).size : Int)) = true := bne_iff_ne.mpr c26
                  exact absurd (H.trans (congrArg some hrt.out)) (by simp)
                ·replace c25 := Bool.eq_false_iff.mpr c25
                 subst c25
                 have H1 : (some false) = some r := by rw [if_neg (show ¬ (false = true) by decide)] at H; exact H
                 clear H
                 have H := H1
                 clear H1
                 exact absurd (H.trans (congrArg some hrt.out)) (by simp)
               ·rw [if_neg c23] at H
                have c23b0 : (((rd_T29 t280 1).f0) == 6) = false := beq_eq_false_iff_ne.mpr c23
                have c23b1 : (((rd_T29 t280 1).f0) != 6) = true := bne_iff_ne.mpr c23
                exact absurd (H.trans (congrArg some hrt.out)) (by simp)
              ·rw [if_neg c22] at H
               exact absurd H (by simp)
             ·rw [if_neg c21] at H
              have c21b0 : decide ((Int.tmod (wrap64 ((Int.tmod a0 17) + 17)) 17) < 8) = false := decide_eq_false c21
              exact absurd (c19b0.symm.trans c21b0) (by decide)
            ·rw [if_neg c20] at H
             have c20b0 : ((t280.length : Int) == 3) = false := beq_eq_false_iff_ne.mpr c20
             have c20b1 : ((t280.length : Int) != 3) = true := bne_iff_ne.mpr c20
             exact absurd (H.trans (congrArg some hrt.out)) (by simp)
           ·rw [if_neg c19] at H
            have c19b0 : decide ((Int.tmod (wrap64 ((Int.tmod a0 17) + 17)) 17) < 8) = false := decide_eq_false c19
            (try (have c19b0j := c19b0; simp only [hji5] at c19b0j))
            clear c19
            by_cases c32 : ((Int.tmod (wrap64 ((Int.tmod a0 17) + 17)) 17) < 8)
            ·rw [if_pos c32] at H
             have c32b0 : decide ((Int.tmod (wrap64 ((Int.tmod a0 17) + 17)) 17) < 8) = true := decide_eq_true c32
             exact absurd (c19b0.symm.trans c32b0) (by decide)
            ·rw [if_neg c32] at H
             have c32b0 : decide ((Int.tmod (wrap64 ((Int.tmod a0 17) + 17)) 17) < 8) = false := decide_eq_false c32
             (try (have c32b0j := c32b0; simp only [hji5] at c32b0j))
             clear c32
             by_cases c40 : (t280.length : Int) = 2
             ·rw [if_pos c40] at H
              have c40b0 : ((t280.length : Int) == 2) = true := beq_iff_eq.mpr c40
              have c40b1 : ((t280.length : Int) != 2) = false := bne_eq_false_iff_eq.mpr c40
              clear c40
              obtain rfl := Option.some.inj H
              go_wp2_with (first | ((with_reducible refine gate_callee (f := 14) rfl ?_); refine goesL_ (some 41) rfl rfl Tryd.func14 (by kernel_rfl) rfl #[.string x8_2] rfl (by (try simp only [List.map_toArray, List.map_cons, List.map_nil]); first | done | rfl | (simp only [List.length_drop, List.length_take]; rfl) | (simp only [wrap64_wl, wrap64_wr]; rfl)) ?_; (with_reducible refine (scan_Scan.calls x8_2 t280 t281 t282 _ (Aside0.mk (tabs_at hT.out (by repeat (first | (with_reducible first | exact HB.out | apply below_alloc | apply pw_below_drewN | apply below_drew1) | exact HB.out)))) A17.out).mono ?_); rintro e w41 ⟨v283, v285, rfl, ho0, ho1, hb⟩; refine ⟨_, rfl, ?_⟩; have n0_ := Aside0.mk (Kd.R_lower ho0 (below_size (by repeat (first | (with_reducible first | exact HB.out | apply below_alloc | apply pw_below_drewN | apply below_drew1) | exact HB.out)))); have n1_ := Aside0.mk (Kd.R_lower ho1 (below_size (by repeat (first | (with_reducible first | exact HB.out | apply below_alloc | apply pw_below_drewN | apply below_drew1) | exact HB.out)))); have n2_ := Aside0.mk (below_step (by repeat (first | (with_reducible first | exact HB.out | apply below_alloc | apply pw_below_drewN | apply below_drew1) | exact HB.out)) hb); clear HB; have HO284 := n0_; have HO286 := n1_; have HB := n2_; clear n0_ n1_ n2_; (try clear hb); (try clear hb2); (try clear hk); (try clear hi); (try clear ho0); (try clear ho1); obtain ⟨Ao42, co42, eo42⟩ := Kd.R_slice HO284.out; subst eo42))
              go_ret
              exact ⟨by first | rfl | (simp [errW_none, errW_some] <;> rfl) | (simp only [← hji5]; first | rfl | (simp [errW_none, errW_some] <;> rfl)) | (simp [*, errW_none, errW_some] <;> rfl), by repeat (first | (with_reducible first | exact HB.out | apply below_alloc | apply pw_below_drewN | apply below_drew1) | exact HB.out)⟩
             ·rw [if_neg c40] at H
              have c40b0 : ((t280.length : Int) == 2) = false := beq_eq_false_iff_ne.mpr c40
              have c40b1 : ((t280.length : Int) != 2) = true := bne_iff_ne.mpr c40
              exact absurd (H.trans (congrArg some hrt.out)) (by simp)
   ·rw [if_neg c7] at H
    exact absurd H (by simp)
  ·rw [if_neg c6] at H
   exact absurd H (by simp)
 ·replace c4 := Bool.eq_false_iff.mpr c4
  subst c4
  have H1 : (some false) = some r := by rw [if_neg (show ¬ (false = true) by decide)] at H; exact H
  clear H
  have H := H1
  clear H1
  exact absurd (H.trans (congrArg some hrt.out)) (by simp)

/-- THE ONE PURE STATEMENT of recensionlaw6_ScanSemis: yours. -/
def recensionlaw6_ScanSemis.Pure : Prop := ∀ (a0 : Int) (a1 : Int), (Lit.int .i64 a0).wf = true → (Lit.int .i64 a1).wf = true → ∃ k, recensionlaw6_ScanSemis.f k a0 a1 = some true
theorem recensionlaw6_ScanSemis.walk (P : recensionlaw6_ScanSemis.Pure) (a0 : Int) (a1 : Int) (w : World) (w0 : (Lit.int .i64 a0).wf = true) (w1 : (Lit.int .i64 a1).wf = true) (hT : Tabs w) :
  Calls Tryd.prog 10 #[.int .i64 a0, .int .i64 a1] w fun e w' => e = .returned (.bool true) ∧ Below w.heap.size w w' := by
 obtain ⟨k, h⟩ := P a0 a1 w0 w1
 refine (recensionlaw6_ScanSemis.calls k a0 a1 true w ⟨rfl⟩ ⟨hT⟩ h).mono ?_
 rintro e w' ⟨rfl, hd⟩
 exact ⟨rfl, hd⟩

end Go.Proofs.YtohhnblaoihgbaaDoor.PScan
