-- PRINTED BY print.sh 35421559b90ae4d0a3588c463048766b98c2df88dd9212a6774a882060cdf62d: not written by this session
import Derived.Test.YtebfhmhfmeibcaaPNameBytesx0
import Derived.Test.YtebfhmhfmeibcaaPNameBytesx1
import Derived.Test.YtebfhmhfmeibcaaPNameBytesx2
import Derived.Test.YtebfhmhfmeibcaaPNameBytesx3
namespace Go.Proofs.Ytebfhmhfmeibcaa.PNameBytes
open Go.RowKit Go.Proofs.YtebfhmhfmeibcaaW.PrintWords Go.Proofs.YtebfhmhfmeibcaaW.PrintLast Go.Proofs.YtebfhmhfmeibcaaW.PrintMore
attribute [local go_sem] max2_int min2_int max_two min_two max_three min_three max_four min_four   -- for this text's walks alone
set_option linter.unusedVariables false
set_option linter.unusedSimpArgs false

/-! ### recensionlaw4_NameBytes: function 4 -/
def recensionlaw4_NameBytes.l0 : Nat → List ByteArray → Int → Int → Option (Bool)
  | 0, _, _, _ => none
  | k + 1, x23, x24, x25 => if x25 < x24 then (if 0 ≤ x25 then (if x25 < (x23.length : Int) then ((name_Is.f k (rdOf ByteArray.empty x23 x25)).bind fun t146 => ((recensionref1_Is.f k (rdOf ByteArray.empty x23 x25)).bind fun t147 => (if (t146 != t147) = true then (some false) else ((name_File.f k (rdOf ByteArray.empty x23 x25)).bind fun t148 => ((recensionref1_FileName.f k (rdOf ByteArray.empty x23 x25)).bind fun t149 => (if (t148 != t149) = true then (some false) else (recensionlaw4_NameBytes.l0 k x23 x24 (wrap64 (x25 + 1))))))))) else (none)) else (none)) else (some true)
def recensionlaw4_NameBytes.f (k : Nat) (a0 : Int) (a1 : Int) : Option (Bool) := (recensionlaw4_begun.f k).bind fun t132 => (if t132 = true then ((some (([a0, a1] : List Int) : List Int)).bind fun y139 => (if 1 + (strOfNums y139).size ≤ 9223372036854775807 then ((some (([strOfNums (([a0] : List Int)), strOfNums (([a0, a1] : List Int)), (⟨#[120]⟩ : ByteArray) ++ (strOfNums y139)] : List ByteArray) : List ByteArray)).bind fun y142 => (recensionlaw4_NameBytes.l0 k y142 (y142.length : Int) 0)) else (none))) else (some false))
theorem recensionlaw4_NameBytes.mono_l : ∀ k, (∀ y0 y1 y2, LeO (recensionlaw4_NameBytes.l0 k y0 y1 y2) (recensionlaw4_NameBytes.l0 (k + 1) y0 y1 y2))
  | 0 => fun _ _ _ r h => by simp [recensionlaw4_NameBytes.l0] at h
  | k + 1 => by
    have ih0 := recensionlaw4_NameBytes.mono_l k
    · intro y0 y1 y2
      unfold recensionlaw4_NameBytes.l0
      repeat' first
      | (with_reducible exact ih0 _ _ _)
      | (with_reducible exact name_File.mono _ _)
      | (with_reducible exact name_Is.mono _ _)
      | (with_reducible exact recensionlaw4_begun.mono _)
      | (with_reducible exact recensionref1_FileName.mono _ _)
      | (with_reducible exact recensionref1_Is.mono _ _)
      | (with_reducible exact LeO.refl _)
      | (with_reducible exact LeO.none _)
      | (with_reducible refine LeO.ite ?_ ?_)
      | (with_reducible refine LeO.bind ?_ (fun _ => ?_))
      | exact ih0 _ _ _
      | exact name_File.mono _ _
      | exact name_Is.mono _ _
      | exact recensionlaw4_begun.mono _
      | exact recensionref1_FileName.mono _ _
      | exact recensionref1_Is.mono _ _
      | exact LeO.none _
      | refine LeO.ite ?_ ?_
      | refine LeO.bind ?_ (fun _ => ?_)
theorem recensionlaw4_NameBytes.mono : ∀ a0 a1 k, LeO (recensionlaw4_NameBytes.f k a0 a1) (recensionlaw4_NameBytes.f (k + 1) a0 a1) := by
  intro a0 a1 k
  have ih0 := recensionlaw4_NameBytes.mono_l k
  unfold recensionlaw4_NameBytes.f
  repeat' first
      | (with_reducible exact ih0 _ _ _)
      | (with_reducible exact name_File.mono _ _)
      | (with_reducible exact name_Is.mono _ _)
      | (with_reducible exact recensionlaw4_begun.mono _)
      | (with_reducible exact recensionref1_FileName.mono _ _)
      | (with_reducible exact recensionref1_Is.mono _ _)
      | (with_reducible exact LeO.refl _)
      | (with_reducible exact LeO.none _)
      | (with_reducible refine LeO.ite ?_ ?_)
      | (with_reducible refine LeO.bind ?_ (fun _ => ?_))
      | exact ih0 _ _ _
      | exact name_File.mono _ _
      | exact name_Is.mono _ _
      | exact recensionlaw4_begun.mono _
      | exact recensionref1_FileName.mono _ _
      | exact recensionref1_Is.mono _ _
      | exact LeO.none _
      | refine LeO.ite ?_ ?_
      | refine LeO.bind ?_ (fun _ => ?_)
set_option maxHeartbeats 8000000 in
set_option maxRecDepth 100000 in
theorem recensionlaw4_NameBytes.calls (k : Nat) (a0 : Int) (a1 : Int) (r : Bool) (w : World) (h : recensionlaw4_NameBytes.f k a0 a1 = some r) :
    Calls Try.prog 4 #[.int .u8 a0, .int .u8 a1] w fun e w' => e = .returned (.bool r) ∧ Below w.heap.size w w' := by
  have HB := Aside0.mk (Below.refl w.heap.size w)
  have H : ((recensionlaw4_begun.f k).bind fun t132 => (if t132 = true then ((some (([a0, a1] : List Int) : List Int)).bind fun y139 => (if 1 + (strOfNums y139).size ≤ 9223372036854775807 then ((some (([strOfNums (([a0] : List Int)), strOfNums (([a0, a1] : List Int)), (⟨#[120]⟩ : ByteArray) ++ (strOfNums y139)] : List ByteArray) : List ByteArray)).bind fun y142 => (recensionlaw4_NameBytes.l0 k y142 (y142.length : Int) 0)) else (none))) else (some false))) = some r := h
  clear h
  replace H := Option.bind_eq_some_iff.mp H
  obtain ⟨t132, A30, H⟩ := H
  replace H : (if t132 = true then ((some (([a0, a1] : List Int) : List Int)).bind fun y139 => (if 1 + (strOfNums y139).size ≤ 9223372036854775807 then ((some (([strOfNums (([a0] : List Int)), strOfNums (([a0, a1] : List Int)), (⟨#[120]⟩ : ByteArray) ++ (strOfNums y139)] : List ByteArray) : List ByteArray)).bind fun y142 => (recensionlaw4_NameBytes.l0 k y142 (y142.length : Int) 0)) else (none))) else (some false)) = some r := H
  have A3 := Aside0.mk A30
  clear A30
  by_cases c4 : t132 = true
  · subst c4
    have H1 : ((some (([a0, a1] : List Int) : List Int)).bind fun y139 => (if 1 + (strOfNums y139).size ≤ 9223372036854775807 then ((some (([strOfNums (([a0] : List Int)), strOfNums (([a0, a1] : List Int)), (⟨#[120]⟩ : ByteArray) ++ (strOfNums y139)] : List ByteArray) : List ByteArray)).bind fun y142 => (recensionlaw4_NameBytes.l0 k y142 (y142.length : Int) 0)) else (none))) = some r := by rw [if_pos rfl] at H; exact H
    clear H
    have H := H1
    clear H1
    obtain ⟨y133, hy133⟩ : ∃ y_ : List Int, y_ = (([a0] : List Int)) := ⟨_, rfl⟩
    replace H : ((some (([a0, a1] : List Int) : List Int)).bind fun y139 => (if 1 + (strOfNums y139).size ≤ 9223372036854775807 then ((some (([strOfNums y133, strOfNums (([a0, a1] : List Int)), (⟨#[120]⟩ : ByteArray) ++ (strOfNums y139)] : List ByteArray) : List ByteArray)).bind fun y142 => (recensionlaw4_NameBytes.l0 k y142 (y142.length : Int) 0)) else (none))) = some r := by first | (rw [hy133]; with_reducible exact H) | (have H2_ := (Option.bind_some _ _).symm.trans H; rw [hy133]; with_reducible exact H2_) | (have H2_ := (Option.bind_some _ _).symm.trans H; with_reducible exact H2_) | with_reducible exact H | (rw [hy133]; exact H) | exact H
    have Ny133 := Aside0.mk hy133
    clear hy133
    obtain ⟨y136, hy136⟩ : ∃ y_ : List Int, y_ = (([a0, a1] : List Int)) := ⟨_, rfl⟩
    replace H : ((some (([a0, a1] : List Int) : List Int)).bind fun y139 => (if 1 + (strOfNums y139).size ≤ 9223372036854775807 then ((some (([strOfNums y133, strOfNums y136, (⟨#[120]⟩ : ByteArray) ++ (strOfNums y139)] : List ByteArray) : List ByteArray)).bind fun y142 => (recensionlaw4_NameBytes.l0 k y142 (y142.length : Int) 0)) else (none))) = some r := by first | (rw [hy136]; with_reducible exact H) | (have H2_ := (Option.bind_some _ _).symm.trans H; rw [hy136]; with_reducible exact H2_) | (have H2_ := (Option.bind_some _ _).symm.trans H; with_reducible exact H2_) | with_reducible exact H | (rw [hy136]; exact H) | exact H
    have Ny136 := Aside0.mk hy136
    clear hy136
    obtain ⟨y139, hy139⟩ : ∃ y_ : List Int, y_ = (([a0, a1] : List Int)) := ⟨_, rfl⟩
    replace H : (if 1 + (strOfNums y139).size ≤ 9223372036854775807 then ((some (([strOfNums y133, strOfNums y136, (⟨#[120]⟩ : ByteArray) ++ (strOfNums y139)] : List ByteArray) : List ByteArray)).bind fun y142 => (recensionlaw4_NameBytes.l0 k y142 (y142.length : Int) 0)) else (none)) = some r := by first | (rw [hy139]; with_reducible exact H) | (have H2_ := (Option.bind_some _ _).symm.trans H; rw [hy139]; with_reducible exact H2_) | (have H2_ := (Option.bind_some _ _).symm.trans H; with_reducible exact H2_) | with_reducible exact H | (rw [hy139]; exact H) | exact H
    have Ny139 := Aside0.mk hy139
    clear hy139
    by_cases c5 : 1 + (strOfNums y139).size ≤ 9223372036854775807
    · rw [if_pos c5] at H
      have c5b0 := eq_true c5
      have c5b1 : decide (1 + (strOfNums y139).size ≤ 9223372036854775807) = true := decide_eq_true c5
      try have c5b2 : (9223372036854775807 < 1 + (strOfNums y139).size) = False := eq_false (Nat.not_lt.2 c5)
      obtain ⟨y142, hy142⟩ : ∃ y_ : List ByteArray, y_ = (([strOfNums y133, strOfNums y136, (⟨#[120]⟩ : ByteArray) ++ (strOfNums y139)] : List ByteArray)) := ⟨_, rfl⟩
      replace H : (recensionlaw4_NameBytes.l0 k y142 (y142.length : Int) 0) = some r := by first | (rw [hy142]; with_reducible exact H) | (have H2_ := (Option.bind_some _ _).symm.trans H; rw [hy142]; with_reducible exact H2_) | (have H2_ := (Option.bind_some _ _).symm.trans H; with_reducible exact H2_) | with_reducible exact H | (rw [hy142]; exact H) | exact H
      have Ny142 := Aside0.mk hy142
      clear hy142
      have H' := Aside0.mk H
      clear H
      go_enter Try.func4, Try.ntmps4
      go_wp2_with (first | ((with_reducible refine gate_callee (f := 7) rfl ?_); refine goesL_ (some 8) rfl rfl Try.func7 (by kernel_rfl) rfl #[] rfl (by (try simp only [List.map_toArray, List.map_cons, List.map_nil]); first | done | rfl | (simp only [List.length_drop, List.length_take]; rfl)) ?_; (with_reducible refine (recensionlaw4_begun.calls k  true _ A3.out).mono ?_); rintro e w6 ⟨rfl, hb⟩; refine ⟨_, rfl, ?_⟩; have n0_ := Aside0.mk (below_step (by repeat (first | (with_reducible first | exact HB.out | apply below_alloc | apply pw_below_drewN | apply below_drew1) | exact HB.out)) hb); clear HB; have HB := n0_; clear n0_; (try clear hb); (try clear hb2); (try clear hk); (try clear hi)) | ((with_reducible refine gate_dst (N := 12) rfl ?_); refine Kd.R_lit (Kd.int .u8) _ 5 ?hg (N := 12) ?hd (xs := ([a0] : List Int)) (inner := [.int .u8 a0]) (ok := fun _ => True) (okp := fun _ => True) ?hr ?hp (fun _ hk => hk) trivial (Below.refl _ _) (Nat.le_refl _) (by simp) ?_; (case hd => rfl); (case hg => rfl); (case hr => first | (go_simp; done) | (go_simp; rfl)); (case hp => exact (Reps.one (show Kd.M (Kd.int .u8) _ _ _ a0 [.int .u8 a0] from rfl) (Reps.none _ _))); intro v134 w7 ho8 hb hg_ hnew_; clear hg_ hnew_; (first | rw [← Ny133.out] at ho8 | (simp only [Int.reduceToNat] at ho8; rw [← Ny133.out] at ho8)); have n0_ := Aside0.mk (Kd.R_lower ho8 (below_size (by repeat (first | (with_reducible first | exact HB.out | apply below_alloc | apply pw_below_drewN | apply below_drew1) | exact HB.out)))); have n1_ := Aside0.mk (below_step (by repeat (first | (with_reducible first | exact HB.out | apply below_alloc | apply pw_below_drewN | apply below_drew1) | exact HB.out)) hb); clear HB; have HO135 := n0_; have HB := n1_; clear n0_ n1_; clear hb ho8; have hcv9 := own_string (P := Try.prog) Try.underlying26 Try.underlying5 Try.underlying9 (Kd.own_of_R HO135.out)) | ((with_reducible refine gate_dst (N := 16) rfl ?_); refine Kd.R_lit (Kd.int .u8) _ 5 ?hg (N := 16) ?hd (xs := ([a0, a1] : List Int)) (inner := [.int .u8 a0, .int .u8 a1]) (ok := fun _ => True) (okp := fun _ => True) ?hr ?hp (fun _ hk => hk) trivial (Below.refl _ _) (Nat.le_refl _) (by simp) ?_; (case hd => rfl); (case hg => rfl); (case hr => first | (go_simp; done) | (go_simp; rfl)); (case hp => exact (Reps.one (show Kd.M (Kd.int .u8) _ _ _ a0 [.int .u8 a0] from rfl) (Reps.one (show Kd.M (Kd.int .u8) _ _ _ a1 [.int .u8 a1] from rfl) (Reps.none _ _)))); intro v137 w10 ho11 hb hg_ hnew_; clear hg_ hnew_; (first | rw [← Ny136.out] at ho11 | (simp only [Int.reduceToNat] at ho11; rw [← Ny136.out] at ho11)); have n0_ := Aside0.mk (Kd.R_elder' (by (with_reducible repeat (first | apply Kd.R_alloc | apply Kd.R_drewN | apply Kd.R_drew)); exact HO135.out) (Kd.R_base ho11) hb); have n1_ := Aside0.mk (Kd.R_lower (Kd.R_new' ho11 (Kd.R_lt (by (with_reducible repeat (first | apply Kd.R_alloc | apply Kd.R_drewN | apply Kd.R_drew)); exact HO135.out))) (below_size (by repeat (first | (with_reducible first | exact HB.out | apply below_alloc | apply pw_below_drewN | apply below_drew1) | exact HB.out)))); have n2_ := Aside0.mk (below_step (by repeat (first | (with_reducible first | exact HB.out | apply below_alloc | apply pw_below_drewN | apply below_drew1) | exact HB.out)) hb); clear HO135; clear HB; have HO135 := n0_; have HO138 := n1_; have HB := n2_; clear n0_ n1_ n2_; clear hb ho11; have hcv12 := own_string (P := Try.prog) Try.underlying26 Try.underlying5 Try.underlying9 (Kd.own_of_R HO138.out)) | ((with_reducible refine gate_dst (N := 20) rfl ?_); refine Kd.R_lit (Kd.int .u8) _ 5 ?hg (N := 20) ?hd (xs := ([a0, a1] : List Int)) (inner := [.int .u8 a0, .int .u8 a1]) (ok := fun _ => True) (okp := fun _ => True) ?hr ?hp (fun _ hk => hk) trivial (Below.refl _ _) (Nat.le_refl _) (by simp) ?_; (case hd => rfl); (case hg => rfl); (case hr => first | (go_simp; done) | (go_simp; rfl)); (case hp => exact (Reps.one (show Kd.M (Kd.int .u8) _ _ _ a0 [.int .u8 a0] from rfl) (Reps.one (show Kd.M (Kd.int .u8) _ _ _ a1 [.int .u8 a1] from rfl) (Reps.none _ _)))); intro v140 w13 ho14 hb hg_ hnew_; clear hg_ hnew_; (first | rw [← Ny139.out] at ho14 | (simp only [Int.reduceToNat] at ho14; rw [← Ny139.out] at ho14)); have n0_ := Aside0.mk (Kd.R_elder' (by (with_reducible repeat (first | apply Kd.R_alloc | apply Kd.R_drewN | apply Kd.R_drew)); exact HO135.out) (Kd.R_base ho14) hb); have n1_ := Aside0.mk (Kd.R_elder' (by (with_reducible repeat (first | apply Kd.R_alloc | apply Kd.R_drewN | apply Kd.R_drew)); exact HO138.out) (Kd.R_base ho14) hb); have n2_ := Aside0.mk (Kd.R_lower (Kd.R_new' (Kd.R_new' ho14 (Kd.R_lt (by (with_reducible repeat (first | apply Kd.R_alloc | apply Kd.R_drewN | apply Kd.R_drew)); exact HO135.out))) (Kd.R_lt (by (with_reducible repeat (first | apply Kd.R_alloc | apply Kd.R_drewN | apply Kd.R_drew)); exact HO138.out))) (below_size (by repeat (first | (with_reducible first | exact HB.out | apply below_alloc | apply pw_below_drewN | apply below_drew1) | exact HB.out)))); have n3_ := Aside0.mk (below_step (by repeat (first | (with_reducible first | exact HB.out | apply below_alloc | apply pw_below_drewN | apply below_drew1) | exact HB.out)) hb); clear HO135; clear HO138; clear HB; have HO135 := n0_; have HO138 := n1_; have HO141 := n2_; have HB := n3_; clear n0_ n1_ n2_ n3_; clear hb ho14; have hcv15 := own_string (P := Try.prog) Try.underlying26 Try.underlying5 Try.underlying9 (Kd.own_of_R HO141.out)) | ((with_reducible refine gate_dst (N := 23) rfl ?_); refine Kd.R_lit Kd.string _ 9 ?hg (N := 23) ?hd (xs := ([strOfNums y133, strOfNums y136, (⟨#[120]⟩ : ByteArray) ++ (strOfNums y139)] : List ByteArray)) (inner := [.string (strOfNums y133), .string (strOfNums y136), .string ((⟨#[120]⟩ : ByteArray) ++ (strOfNums y139))]) (ok := fun _ => True) (okp := fun _ => True) ?hr ?hp (fun _ hk => hk) trivial (Below.refl _ _) (Nat.le_refl _) (by simp) ?_; (case hd => rfl); (case hg => rfl); (case hr => first | (go_simp; done) | (go_simp; rfl)); (case hp => exact (Reps.one (show Kd.M Kd.string _ _ _ (strOfNums y133) [.string (strOfNums y133)] from rfl) (Reps.one (show Kd.M Kd.string _ _ _ (strOfNums y136) [.string (strOfNums y136)] from rfl) (Reps.one (show Kd.M Kd.string _ _ _ ((⟨#[120]⟩ : ByteArray) ++ (strOfNums y139)) [.string ((⟨#[120]⟩ : ByteArray) ++ (strOfNums y139))] from rfl) (Reps.none _ _))))); intro v143 w16 ho17 hb hg_ hnew_; clear hg_ hnew_; (first | rw [← Ny142.out] at ho17 | (simp only [Int.reduceToNat] at ho17; rw [← Ny142.out] at ho17)); have n0_ := Aside0.mk (Kd.R_below (by (with_reducible repeat (first | apply Kd.R_alloc | apply Kd.R_drewN | apply Kd.R_drew)); exact HO135.out) hb); have n1_ := Aside0.mk (Kd.R_below (by (with_reducible repeat (first | apply Kd.R_alloc | apply Kd.R_drewN | apply Kd.R_drew)); exact HO138.out) hb); have n2_ := Aside0.mk (Kd.R_below (by (with_reducible repeat (first | apply Kd.R_alloc | apply Kd.R_drewN | apply Kd.R_drew)); exact HO141.out) hb); have n3_ := Aside0.mk (Kd.R_lower ho17 (below_size (by repeat (first | (with_reducible first | exact HB.out | apply below_alloc | apply pw_below_drewN | apply below_drew1) | exact HB.out)))); have n4_ := Aside0.mk (below_step (by repeat (first | (with_reducible first | exact HB.out | apply below_alloc | apply pw_below_drewN | apply below_drew1) | exact HB.out)) hb); clear HO135; clear HO138; clear HO141; clear HB; have HO135 := n0_; have HO138 := n1_; have HO141 := n2_; have HO144 := n3_; have HB := n4_; clear n0_ n1_ n2_ n3_ n4_; clear hb ho17; obtain ⟨Ao18, co18, eo18⟩ := Kd.R_slice HO144.out; subst eo18))
      go_loopg [25] k (fun kq v25 w' => ∃ (x25_1 : Int), v25 = .int .i64 x25_1 ∧ Aside0 (recensionlaw4_NameBytes.l0 kq y142 (y142.length : Int) x25_1 = some r) ∧ Aside0 (kq ≤ k) ∧ Aside0 (Kd.R Kd.string 9 w' w.heap.size (fun _ => True) (.slice Ao18 y142.length co18) y142) ∧ Aside0 (Below w.heap.size w w'))
      case atStart => exact ⟨(0), (by first | rfl | (simp; done) | (simp [*]; done)), H', ⟨Nat.le_refl _⟩, ⟨by (with_reducible repeat (first | apply Kd.R_alloc | apply Kd.R_drewN | apply Kd.R_drew)); exact HO144.out⟩, ⟨by repeat (first | (with_reducible first | exact HB.out | apply below_alloc | apply pw_below_drewN | apply below_drew1) | exact HB.out)⟩⟩
      case round =>
        clear H'
        try clear hcv1
        try clear p2
        try clear c4
        try clear c5
        try clear c5b0
        try clear c5b1
        try clear c5b2
        try clear c7
        try clear hcv9
        try clear hcv12
        try clear hcv15
        obtain ⟨x25_1, rfl, HA, HK1, HO_23, HB⟩ := hrel
        cases gk with
        | zero => exact absurd HA.out (by simp [recensionlaw4_NameBytes.l0])
        | succ k1 =>
          have H := HA.out
          clear HA
          simp only [recensionlaw4_NameBytes.l0] at H
          by_cases c19 : x25_1 < (y142.length : Int)
          · rw [if_pos c19] at H
            have c19b0 : decide (x25_1 < (y142.length : Int)) = true := decide_eq_true c19
            clear c19
            by_cases c20 : 0 ≤ x25_1
            · rw [if_pos c20] at H
              have c20b0 : decide (0 ≤ x25_1) = true := decide_eq_true c20
              clear c20
              by_cases c21 : x25_1 < (y142.length : Int)
              · rw [if_pos c21] at H
                have c21b0 : decide (x25_1 < (y142.length : Int)) = true := decide_eq_true c21
                clear c21
                replace H := Option.bind_eq_some_iff.mp H
                obtain ⟨t146, A220, H⟩ := H
                replace H : ((recensionref1_Is.f k1 (rdOf ByteArray.empty y142 x25_1)).bind fun t147 => (if (t146 != t147) = true then (some false) else ((name_File.f k1 (rdOf ByteArray.empty y142 x25_1)).bind fun t148 => ((recensionref1_FileName.f k1 (rdOf ByteArray.empty y142 x25_1)).bind fun t149 => (if (t148 != t149) = true then (some false) else (recensionlaw4_NameBytes.l0 k1 y142 (y142.length : Int) (wrap64 (x25_1 + 1)))))))) = some r := H
                have A22 := Aside0.mk A220
                clear A220
                replace H := Option.bind_eq_some_iff.mp H
                obtain ⟨t147, A230, H⟩ := H
                replace H : (if (t146 != t147) = true then (some false) else ((name_File.f k1 (rdOf ByteArray.empty y142 x25_1)).bind fun t148 => ((recensionref1_FileName.f k1 (rdOf ByteArray.empty y142 x25_1)).bind fun t149 => (if (t148 != t149) = true then (some false) else (recensionlaw4_NameBytes.l0 k1 y142 (y142.length : Int) (wrap64 (x25_1 + 1))))))) = some r := H
                have A23 := Aside0.mk A230
                clear A230
                by_cases c24 : (t146 != t147) = true
                · rw [if_pos c24] at H
                  have c24b0 : (t146 != t147) = true := c24
                  (try (have c24b1 : decide (t146 = t147) = false := by simpa using c24))
                  (try (have c24b2 : (t146 == t147) = false := by simpa using c24))
                  (try (have c24b3 : ¬ (t146 = t147) := by simpa using c24))
                  clear c24
                  obtain rfl := Option.some.inj H
                  have p145 : 0 ≤ (x25_1 : Int) := of_decide_eq_true (by first | (with_reducible assumption) | assumption)
                  have q145 : x25_1 < (y142.length : Int) := of_decide_eq_true (by first | (with_reducible assumption) | assumption)
                  obtain ⟨ad145, e145, hx145_0⟩ := Kd.at_string (Kd.R_reads' HO_23.out).2.2 x25_1 p145 q145
                  cases e145
                  replace p145 := eq_true p145
                  replace q145 := eq_true q145
                  go_wp2_with (first | ((with_reducible refine gate_callee (f := 9) rfl ?_); refine goesL_ (some 30) rfl rfl Try.func9 (by kernel_rfl) rfl #[.string (rdOf ByteArray.empty y142 x25_1)] rfl (by (try simp only [List.map_toArray, List.map_cons, List.map_nil]); first | done | rfl | (simp only [List.length_drop, List.length_take]; rfl)) ?_; (with_reducible refine (name_Is.calls k1 (rdOf ByteArray.empty y142 x25_1) t146 _ A22.out).mono ?_); rintro e w' ⟨rfl, ⟨nd, rfl⟩⟩; refine ⟨_, rfl, ?_⟩) | ((with_reducible refine gate_callee (f := 10) rfl ?_); refine goesL_ (some 32) rfl rfl Try.func10 (by kernel_rfl) rfl #[.string (rdOf ByteArray.empty y142 x25_1)] rfl (by (try simp only [List.map_toArray, List.map_cons, List.map_nil]); first | done | rfl | (simp only [List.length_drop, List.length_take]; rfl)) ?_; (with_reducible refine (recensionref1_Is.calls k1 (rdOf ByteArray.empty y142 x25_1) t147 _ A23.out).mono ?_); rintro e w25 ⟨rfl, hb⟩; refine ⟨_, rfl, ?_⟩; have n0_ := Aside0.mk (Kd.R_below (by (with_reducible repeat (first | apply Kd.R_alloc | apply Kd.R_drewN | apply Kd.R_drew)); exact HO_23.out) hb); have n1_ := Aside0.mk (below_step (by repeat (first | (with_reducible first | exact HB.out | apply below_alloc | apply pw_below_drewN | apply below_drew1) | exact HB.out)) hb); clear HO_23; clear HB; have HO_23 := n0_; have HB := n1_; clear n0_ n1_; (try clear hb); (try clear hb2); (try clear hk); (try clear hi)))
                  go_ret
                  exact ⟨by first | rfl | (simp [errW_none, errW_some] <;> rfl) | (simp [*, errW_none, errW_some] <;> rfl), by repeat (first | (with_reducible first | exact HB.out | apply below_alloc | apply pw_below_drewN | apply below_drew1) | exact HB.out)⟩
                · rw [if_neg c24] at H
                  have c24b0 : (t146 != t147) = false := by simpa using c24
                  (try (have c24b1 : decide (t146 = t147) = true := by simpa using c24))
                  (try (have c24b2 : (t146 == t147) = true := by simpa using c24))
                  clear c24
                  replace H := Option.bind_eq_some_iff.mp H
                  obtain ⟨t148, A260, H⟩ := H
                  replace H : ((recensionref1_FileName.f k1 (rdOf ByteArray.empty y142 x25_1)).bind fun t149 => (if (t148 != t149) = true then (some false) else (recensionlaw4_NameBytes.l0 k1 y142 (y142.length : Int) (wrap64 (x25_1 + 1))))) = some r := H
                  have A26 := Aside0.mk A260
                  clear A260
                  replace H := Option.bind_eq_some_iff.mp H
                  obtain ⟨t149, A270, H⟩ := H
                  replace H : (if (t148 != t149) = true then (some false) else (recensionlaw4_NameBytes.l0 k1 y142 (y142.length : Int) (wrap64 (x25_1 + 1)))) = some r := H
                  have A27 := Aside0.mk A270
                  clear A270
                  by_cases c28 : (t148 != t149) = true
                  · rw [if_pos c28] at H
                    have c28b0 : (t148 != t149) = true := c28
                    (try (have c28b1 : decide (t148 = t149) = false := by simpa using c28))
                    (try (have c28b2 : (t148 == t149) = false := by simpa using c28))
                    (try (have c28b3 : ¬ (t148 = t149) := by simpa using c28))
                    clear c28
                    obtain rfl := Option.some.inj H
                    have p145 : 0 ≤ (x25_1 : Int) := of_decide_eq_true (by first | (with_reducible assumption) | assumption)
                    have q145 : x25_1 < (y142.length : Int) := of_decide_eq_true (by first | (with_reducible assumption) | assumption)
                    obtain ⟨ad145, e145, hx145_0⟩ := Kd.at_string (Kd.R_reads' HO_23.out).2.2 x25_1 p145 q145
                    cases e145
                    replace p145 := eq_true p145
                    replace q145 := eq_true q145
                    go_wp2_with (first | ((with_reducible refine gate_callee (f := 9) rfl ?_); refine goesL_ (some 30) rfl rfl Try.func9 (by kernel_rfl) rfl #[.string (rdOf ByteArray.empty y142 x25_1)] rfl (by (try simp only [List.map_toArray, List.map_cons, List.map_nil]); first | done | rfl | (simp only [List.length_drop, List.length_take]; rfl)) ?_; (with_reducible refine (name_Is.calls k1 (rdOf ByteArray.empty y142 x25_1) t146 _ A22.out).mono ?_); rintro e w' ⟨rfl, ⟨nd, rfl⟩⟩; refine ⟨_, rfl, ?_⟩) | ((with_reducible refine gate_callee (f := 10) rfl ?_); refine goesL_ (some 32) rfl rfl Try.func10 (by kernel_rfl) rfl #[.string (rdOf ByteArray.empty y142 x25_1)] rfl (by (try simp only [List.map_toArray, List.map_cons, List.map_nil]); first | done | rfl | (simp only [List.length_drop, List.length_take]; rfl)) ?_; (with_reducible refine (recensionref1_Is.calls k1 (rdOf ByteArray.empty y142 x25_1) t147 _ A23.out).mono ?_); rintro e w29 ⟨rfl, hb⟩; refine ⟨_, rfl, ?_⟩; have n0_ := Aside0.mk (Kd.R_below (by (with_reducible repeat (first | apply Kd.R_alloc | apply Kd.R_drewN | apply Kd.R_drew)); exact HO_23.out) hb); have n1_ := Aside0.mk (below_step (by repeat (first | (with_reducible first | exact HB.out | apply below_alloc | apply pw_below_drewN | apply below_drew1) | exact HB.out)) hb); clear HO_23; clear HB; have HO_23 := n0_; have HB := n1_; clear n0_ n1_; (try clear hb); (try clear hb2); (try clear hk); (try clear hi)) | (go_at_call 15; (with_reducible refine (name_File.calls k1 (rdOf ByteArray.empty y142 x25_1) t148 _ A26.out).mono ?_); rintro e w' ⟨rfl, ⟨nd, rfl⟩⟩) | (go_at_call 16; (with_reducible refine (recensionref1_FileName.calls k1 (rdOf ByteArray.empty y142 x25_1) t149 _ A27.out).mono ?_); rintro e w' ⟨rfl, ⟨nd, rfl⟩⟩))
                    go_ret
                    exact ⟨by first | rfl | (simp [errW_none, errW_some] <;> rfl) | (simp [*, errW_none, errW_some] <;> rfl), by repeat (first | (with_reducible first | exact HB.out | apply below_alloc | apply pw_below_drewN | apply below_drew1) | exact HB.out)⟩
                  · rw [if_neg c28] at H
                    have c28b0 : (t148 != t149) = false := by simpa using c28
                    (try (have c28b1 : decide (t148 = t149) = true := by simpa using c28))
                    (try (have c28b2 : (t148 == t149) = true := by simpa using c28))
                    clear c28
                    have H' := Aside0.mk H
                    clear H
                    have p145 : 0 ≤ (x25_1 : Int) := of_decide_eq_true (by first | (with_reducible assumption) | assumption)
                    have q145 : x25_1 < (y142.length : Int) := of_decide_eq_true (by first | (with_reducible assumption) | assumption)
                    obtain ⟨ad145, e145, hx145_0⟩ := Kd.at_string (Kd.R_reads' HO_23.out).2.2 x25_1 p145 q145
                    cases e145
                    replace p145 := eq_true p145
                    replace q145 := eq_true q145
                    go_wp2_with (first | ((with_reducible refine gate_callee (f := 9) rfl ?_); refine goesL_ (some 30) rfl rfl Try.func9 (by kernel_rfl) rfl #[.string (rdOf ByteArray.empty y142 x25_1)] rfl (by (try simp only [List.map_toArray, List.map_cons, List.map_nil]); first | done | rfl | (simp only [List.length_drop, List.length_take]; rfl)) ?_; (with_reducible refine (name_Is.calls k1 (rdOf ByteArray.empty y142 x25_1) t146 _ A22.out).mono ?_); rintro e w' ⟨rfl, ⟨nd, rfl⟩⟩; refine ⟨_, rfl, ?_⟩) | ((with_reducible refine gate_callee (f := 10) rfl ?_); refine goesL_ (some 32) rfl rfl Try.func10 (by kernel_rfl) rfl #[.string (rdOf ByteArray.empty y142 x25_1)] rfl (by (try simp only [List.map_toArray, List.map_cons, List.map_nil]); first | done | rfl | (simp only [List.length_drop, List.length_take]; rfl)) ?_; (with_reducible refine (recensionref1_Is.calls k1 (rdOf ByteArray.empty y142 x25_1) t147 _ A23.out).mono ?_); rintro e w30 ⟨rfl, hb⟩; refine ⟨_, rfl, ?_⟩; have n0_ := Aside0.mk (Kd.R_below (by (with_reducible repeat (first | apply Kd.R_alloc | apply Kd.R_drewN | apply Kd.R_drew)); exact HO_23.out) hb); have n1_ := Aside0.mk (below_step (by repeat (first | (with_reducible first | exact HB.out | apply below_alloc | apply pw_below_drewN | apply below_drew1) | exact HB.out)) hb); clear HO_23; clear HB; have HO_23 := n0_; have HB := n1_; clear n0_ n1_; (try clear hb); (try clear hb2); (try clear hk); (try clear hi)) | (go_at_call 15; (with_reducible refine (name_File.calls k1 (rdOf ByteArray.empty y142 x25_1) t148 _ A26.out).mono ?_); rintro e w' ⟨rfl, ⟨nd, rfl⟩⟩) | (go_at_call 16; (with_reducible refine (recensionref1_FileName.calls k1 (rdOf ByteArray.empty y142 x25_1) t149 _ A27.out).mono ?_); rintro e w' ⟨rfl, ⟨nd, rfl⟩⟩))
                    go_roundg k1
                    case measure => have := HK1.out; omega
                    case rel => exact ⟨(wrap64 (x25_1 + 1)), (by first | rfl | (simp; done) | (simp [*]; done)), H', ⟨by have := HK1.out; omega⟩, ⟨by (with_reducible repeat (first | apply Kd.R_alloc | apply Kd.R_drewN | apply Kd.R_drew)); exact HO_23.out⟩, ⟨by repeat (first | (with_reducible first | exact HB.out | apply below_alloc | apply pw_below_drewN | apply below_drew1) | exact HB.out)⟩⟩
              · rw [if_neg c21] at H
                exact absurd H (by simp)
            · rw [if_neg c20] at H
              exact absurd H (by simp)
          · rw [if_neg c19] at H
            have c19b0 : decide (x25_1 < (y142.length : Int)) = false := decide_eq_false c19
            clear c19
            obtain rfl := Option.some.inj H
            go_wp2
            go_ret
            exact ⟨by first | rfl | (simp [errW_none, errW_some] <;> rfl) | (simp [*, errW_none, errW_some] <;> rfl), by repeat (first | (with_reducible first | exact HB.out | apply below_alloc | apply pw_below_drewN | apply below_drew1) | exact HB.out)⟩
    · rw [if_neg c5] at H
      exact absurd H (by simp)
  · replace c4 := Bool.eq_false_iff.mpr c4
    subst c4
    have H1 : (some false) = some r := by rw [if_neg (show ¬ (false = true) by decide)] at H; exact H
    clear H
    have H := H1
    clear H1
    obtain rfl := Option.some.inj H
    go_enter Try.func4, Try.ntmps4
    go_wp2_with (first | ((with_reducible refine gate_callee (f := 7) rfl ?_); refine goesL_ (some 8) rfl rfl Try.func7 (by kernel_rfl) rfl #[] rfl (by (try simp only [List.map_toArray, List.map_cons, List.map_nil]); first | done | rfl | (simp only [List.length_drop, List.length_take]; rfl)) ?_; (with_reducible refine (recensionlaw4_begun.calls k  false _ A3.out).mono ?_); rintro e w31 ⟨rfl, hb⟩; refine ⟨_, rfl, ?_⟩; have n0_ := Aside0.mk (below_step (by repeat (first | (with_reducible first | exact HB.out | apply below_alloc | apply pw_below_drewN | apply below_drew1) | exact HB.out)) hb); clear HB; have HB := n0_; clear n0_; (try clear hb); (try clear hb2); (try clear hk); (try clear hi)))
    go_ret
    exact ⟨by first | rfl | (simp [errW_none, errW_some] <;> rfl) | (simp [*, errW_none, errW_some] <;> rfl), by repeat (first | (with_reducible first | exact HB.out | apply below_alloc | apply pw_below_drewN | apply below_drew1) | exact HB.out)⟩

/-- THE ONE PURE STATEMENT of recensionlaw4_NameBytes: yours. -/
def recensionlaw4_NameBytes.Pure : Prop := ∀ (a0 : Int) (a1 : Int), (Lit.int .u8 a0).wf = true → (Lit.int .u8 a1).wf = true → ∃ k, recensionlaw4_NameBytes.f k a0 a1 = some true
theorem recensionlaw4_NameBytes.walk (P : recensionlaw4_NameBytes.Pure) (a0 : Int) (a1 : Int) (w : World) (w0 : (Lit.int .u8 a0).wf = true) (w1 : (Lit.int .u8 a1).wf = true) :
    Calls Try.prog 4 #[.int .u8 a0, .int .u8 a1] w fun e w' => e = .returned (.bool true) ∧ Below w.heap.size w w' := by
  obtain ⟨k, h⟩ := P a0 a1 w0 w1
  refine (recensionlaw4_NameBytes.calls k a0 a1 true w h).mono ?_
  rintro e w' ⟨rfl, hd⟩
  exact ⟨rfl, hd⟩

end Go.Proofs.Ytebfhmhfmeibcaa.PNameBytes
