-- Written by myprint.py (the prover's own turn of the printer); not trusted: Lean checks it.
import Derived.Test.YthjbcpakpfdkaaaPStackx0
import Derived.Test.YthjbcpakpfdkaaaPStackx2
import Derived.Test.YthjbcpakpfdkaaaPStackx3
import Derived.Test.YthjbcpakpfdkaaaPStackx4
namespace Go.Proofs.Ythjbcpakpfdkaaa.PStack
open Go.RowKit Go.Proofs.YthjbcpakpfdkaaaW.PrintWords Go.Proofs.YthjbcpakpfdkaaaW.PrintLast Go.Proofs.YthjbcpakpfdkaaaW.PrintMore
attribute [local go_sem] str_leq op_leq op_gtr op_geq max2_int min2_int max_two min_two max_three min_three max_four min_four   -- for this text's walks alone
set_option linter.unusedVariables false
set_option linter.unusedSimpArgs false

/-! ### recensionlaw3_Cut: function 28 -/
def recensionlaw3_Cut.f (a0 : ByteArray) (a1 : Int) : Option (ByteArray) := if (a0.size : Int) > a1 then (if 0 ≤ a1 then (if a1 ≤ (a0.size : Int) then (some (a0.extract 0 (a1 : Int).toNat)) else (none)) else (none)) else (some a0)
set_option maxHeartbeats 8000000 in
set_option maxRecDepth 100000 in
theorem recensionlaw3_Cut.calls (a0 : ByteArray) (a1 : Int) (r : ByteArray) (w : World) (h : recensionlaw3_Cut.f a0 a1 = some r) :
  Calls Try.prog 28 #[.string a0, .int .i64 a1] w fun e w' => e = .returned (.string r) ∧ Drawn0 w w' := by
 have H : (if (a0.size : Int) > a1 then (if 0 ≤ a1 then (if a1 ≤ (a0.size : Int) then (some (a0.extract 0 (a1 : Int).toNat)) else (none)) else (none)) else (some a0)) = some r := h
 clear h
 by_cases c3 : (a0.size : Int) > a1
 ·rw [if_pos c3] at H
  have c3b0 : decide (a1 < (a0.size : Int)) = true := decide_eq_true c3
  clear c3
  by_cases c4 : 0 ≤ a1
  ·rw [if_pos c4] at H
   have c4b0 := eq_true c4
   have c4b1 : decide (0 ≤ a1) = true := decide_eq_true c4
   clear c4
   by_cases c5 : a1 ≤ (a0.size : Int)
   ·rw [if_pos c5] at H
    have c5b0 := eq_true c5
    have c5b1 : decide (a1 ≤ (a0.size : Int)) = true := decide_eq_true c5
    clear c5
    obtain rfl := Option.some.inj H
    go_enter Try.func28, Try.ntmps28
    go_wp2
    go_ret
    exact ⟨by first | rfl | (simp; done) | (simp [*]; done), by repeat (first | exact Drawn0.refl _ | apply Drawn0.step)⟩
   ·rw [if_neg c5] at H
    exact absurd H (by simp)
  ·rw [if_neg c4] at H
   exact absurd H (by simp)
 ·rw [if_neg c3] at H
  have c3b0 : decide (a1 < (a0.size : Int)) = false := decide_eq_false c3
  clear c3
  obtain rfl := Option.some.inj H
  go_enter Try.func28, Try.ntmps28
  go_wp2
  go_ret
  exact ⟨by first | rfl | (simp; done) | (simp [*]; done), by repeat (first | exact Drawn0.refl _ | apply Drawn0.step)⟩

/-! ### recensionlaw25_Cut: function 11 -/
mutual
def recensionlaw25_Cut.l0 : Nat → List (S56) → List (S56) → Int → Option ((List (S56)))
 | 0, _, _, _ => none
 | k + 1, x0, x3, x4 => if x4 < (x0.length : Int) then (recensionlaw25_Cut.j1 k x0 x3 x4 (decide (x4 < 10))) else (recensionlaw25_Cut.j1 k x0 x3 x4 false)
def recensionlaw25_Cut.j1 : Nat → List (S56) → List (S56) → Int → Bool → Option ((List (S56)))
 | 0, _, _, _, _ => none
 | k + 1, x0, x3, x4, x13 => if x13 = true then (if 0 ≤ x4 then (if x4 < (x0.length : Int) then ((recensionlaw3_Cut.f ((rd_T56 x0 x4).f0) 20).bind fun t138 => ((recensionlaw3_Cut.f ((rd_T56 x0 x4).f3) 60).bind fun t139 => ((recensionlaw3_Cut.f ((rd_T56 x0 x4).f4) 60).bind fun t140 => (if x3.length < 2513169434916 then (recensionlaw25_Cut.l0 k x0 (x3 ++ [(⟨t138, (rd_T56 x0 x4).f1, (rd_T56 x0 x4).f2, t139, t140⟩ : S56)]) (wrap64 (x4 + 1))) else (none))))) else (none)) else (none)) else (some x3)
end
def recensionlaw25_Cut.f (k : Nat) (l0 : List (S56)) : Option ((List (S56))) := recensionlaw25_Cut.l0 k l0 ([] : List (S56)) 0
theorem recensionlaw25_Cut.mono_l : ∀ k, (∀ y0 y1 y2, LeO (recensionlaw25_Cut.l0 k y0 y1 y2) (recensionlaw25_Cut.l0 (k + 1) y0 y1 y2)) ∧ (∀ y0 y1 y2 y3, LeO (recensionlaw25_Cut.j1 k y0 y1 y2 y3) (recensionlaw25_Cut.j1 (k + 1) y0 y1 y2 y3))
 | 0 => ⟨fun _ _ _ r h => by simp [recensionlaw25_Cut.l0] at h, fun _ _ _ _ r h => by simp [recensionlaw25_Cut.j1] at h⟩
 | k + 1 => by
  obtain ⟨ih0, ih1⟩ := recensionlaw25_Cut.mono_l k
  refine ⟨?_, ?_⟩
  ·intro y0 y1 y2
   unfold recensionlaw25_Cut.l0
   repeat' first
   | (with_reducible exact ih0 _ _ _)
   | (with_reducible exact ih1 _ _ _ _)
   | (with_reducible exact LeO.refl _)
   | (with_reducible exact LeO.none _)
   | (with_reducible refine LeO.ite ?_ ?_)
   | (with_reducible refine LeO.bind ?_ (fun _ => ?_))
   | exact ih0 _ _ _
   | exact ih1 _ _ _ _
   | exact LeO.none _
   | refine LeO.ite ?_ ?_
   | refine LeO.bind ?_ (fun _ => ?_)
  ·intro y0 y1 y2 y3
   unfold recensionlaw25_Cut.j1
   repeat' first
   | (with_reducible exact ih0 _ _ _)
   | (with_reducible exact ih1 _ _ _ _)
   | (with_reducible exact LeO.refl _)
   | (with_reducible exact LeO.none _)
   | (with_reducible refine LeO.ite ?_ ?_)
   | (with_reducible refine LeO.bind ?_ (fun _ => ?_))
   | exact ih0 _ _ _
   | exact ih1 _ _ _ _
   | exact LeO.none _
   | refine LeO.ite ?_ ?_
   | refine LeO.bind ?_ (fun _ => ?_)
theorem recensionlaw25_Cut.mono : ∀ a0 k, LeO (recensionlaw25_Cut.f k a0) (recensionlaw25_Cut.f (k + 1) a0) := by
 intro a0 k
 obtain ⟨ih0, ih1⟩ := recensionlaw25_Cut.mono_l k
 unfold recensionlaw25_Cut.f
 repeat' first
   | (with_reducible exact ih0 _ _ _)
   | (with_reducible exact ih1 _ _ _ _)
   | (with_reducible exact LeO.refl _)
   | (with_reducible exact LeO.none _)
   | (with_reducible refine LeO.ite ?_ ?_)
   | (with_reducible refine LeO.bind ?_ (fun _ => ?_))
   | exact ih0 _ _ _
   | exact ih1 _ _ _ _
   | exact LeO.none _
   | refine LeO.ite ?_ ?_
   | refine LeO.bind ?_ (fun _ => ?_)
def recensionlaw25_Cut.T6 : Bool × List (List Nat × List Nat) := (true, [([], []), ([0], [0]), ([1], [1]), ([], []), ([3], [3]), ([4, 2], [4]), ([], []), ([6], [6]), ([7, 5], [7]), ([0, 1, 2, 3, 4, 6, 7], []), ([9, 2, 8, 0, 1, 2, 3, 4, 6, 7], [2, 9]), ([0, 1, 2, 3, 4, 5, 6, 7, 9, 10], []), ([11, 5, 10, 0, 1, 2, 3, 4, 5, 6, 7, 9, 10], [5, 11]), ([0, 1, 2, 3, 4, 5, 6, 7, 8, 9, 10, 11, 12], []), ([13, 8, 12, 0, 1, 2, 3, 4, 5, 6, 7, 8, 9, 10, 11, 12], [8, 13])])
def recensionlaw25_Cut.B6 : List Nat := [0, 1, 3, 0, 8, 31, 0, 64, 255, 223, 1023, 2047, 4095, 8191, 16383]
theorem recensionlaw25_Cut.tab6 : rtab .any (opsOf Try.f11 6) = recensionlaw25_Cut.T6 := by kernel_rfl
theorem recensionlaw25_Cut.bits6 : waitsOk recensionlaw25_Cut.T6.2 recensionlaw25_Cut.B6 = true := by kernel_rfl
set_option maxHeartbeats 8000000 in
set_option maxRecDepth 100000 in
theorem recensionlaw25_Cut.calls (k : Nat) (A0 : Option Addr) (c0 : Nat) (l0 : List (S56)) (r : List (S56)) (w : World) (hr0 : Kd.C k56 w A0 l0.length l0) (hc0 : l0.length ≤ c0) (h : recensionlaw25_Cut.f k l0 = some r) :
  Calls Try.prog 11 #[.slice A0 l0.length c0] w fun e w' => ∃ v0_ : Value, e = .returned (v0_) ∧ Kd.R k56 56 w' w.heap.size (fun _ => True) v0_ r ∧ Below w.heap.size w w' := by
 have hu56 := Try.underlying56
 have HR0 := Aside0.mk hr0
 have HC0 := Aside0.mk hc0
 clear hr0 hc0
 have HB := Aside0.mk (Below.refl w.heap.size w)
 have H : (recensionlaw25_Cut.l0 k l0 ([] : List (S56)) 0) = some r := h
 clear h
 have H' := Aside0.mk H
 clear H
 go_enter Try.func11, Try.ntmps11
 go_wp2
 go_loopg [3, 4] k (fun kq v3 v4 w' => ∃ (x3_1 : List (S56)) (x4_1 : Int), v4 = .int .i64 x4_1 ∧ Aside0 (recensionlaw25_Cut.l0 kq l0 x3_1 x4_1 = some r) ∧ Aside0 (kq ≤ k) ∧ Aside0 (Kd.R k56 56 w' w.heap.size (fun _ => True) v3 x3_1) ∧ Aside0 (Below w.heap.size w w'))
 case atStart => exact ⟨(([] : List (S56))), (0), (by first | rfl | (simp; done) | (simp [*]; done)), H', ⟨Nat.le_refl _⟩, ⟨by first | exact Kd.R_nil _ _ _ _ _ | exact Kd.N_nil _ _ _ _ _ | exact Kd.V_nil _ _ _ _ _ | exact Kd.Q_nil _ _ _ _ _ | exact Kd.S_nil _ _ _ _ _⟩, ⟨by repeat (first | (with_reducible first | exact HB.out | apply below_alloc | apply pw_below_drewN | apply below_drew1) | exact HB.out)⟩⟩
 case round =>
  clear H'
  try clear c1
  obtain ⟨x3_1, x4_1, rfl, HA, HK1, HO_3, HB⟩ := hrel
  cases gk with
  | zero => exact absurd HA.out (by simp [recensionlaw25_Cut.l0])
  | succ k1 =>
   have H := HA.out
   clear HA
   simp only [recensionlaw25_Cut.l0] at H
   have HC2 := Aside0.mk H
   clear H
   go_upto_region 3 with (fail)
   go_cut [13] (fun v13 wc => ∃ (kq : Nat) (x13_1 : Bool), v13 = .bool x13_1 ∧ Aside0 (recensionlaw25_Cut.j1 kq l0 x3_1 x4_1 x13_1 = some r) ∧ Aside0 (kq ≤ k1) ∧ Aside0 (Kd.R k56 56 wc w.heap.size (fun _ => True) u3 x3_1) ∧ Aside0 (Below w.heap.size w wc))
   case first =>
    have H := HC2.out
    clear HC2
    by_cases c3 : x4_1 < (l0.length : Int)
    ·rw [if_pos c3] at H
     have c3b0 : decide (x4_1 < (l0.length : Int)) = true := decide_eq_true c3
     clear c3
     (first | rw [c3b0] | (simp only [i64_w, i32_w]; rw [c3b0]) | skip)
     have H' := Aside0.mk H
     clear H
     go_wp2
     go_meet
     case rel => exact ⟨_, (decide (x4_1 < 10)), (by first | rfl | (simp; done) | (simp [*]; done)), H', ⟨by have := HK1.out; first | omega | exact Nat.le_refl _⟩, ⟨by (with_reducible repeat (first | apply Kd.R_alloc | apply Kd.R_drewN | apply Kd.R_drew)); exact HO_3.out⟩, ⟨by repeat (first | (with_reducible first | exact HB.out | apply below_alloc | apply pw_below_drewN | apply below_drew1) | exact HB.out)⟩⟩
    ·rw [if_neg c3] at H
     have c3b0 : decide (x4_1 < (l0.length : Int)) = false := decide_eq_false c3
     clear c3
     (first | rw [c3b0] | (simp only [i64_w, i32_w]; rw [c3b0]) | skip)
     have H' := Aside0.mk H
     clear H
     go_wp2
     go_meet
     case rel => exact ⟨_, (false), (by first | rfl | (simp; done) | (simp [*]; done)), H', ⟨by have := HK1.out; first | omega | exact Nat.le_refl _⟩, ⟨by (with_reducible repeat (first | apply Kd.R_alloc | apply Kd.R_drewN | apply Kd.R_drew)); exact HO_3.out⟩, ⟨by repeat (first | (with_reducible first | exact HB.out | apply below_alloc | apply pw_below_drewN | apply below_drew1) | exact HB.out)⟩⟩
   case rest =>
    clear HC2
    try clear c1
    try clear p2
    try clear c3
    try clear c3b0
    obtain ⟨kq, x13_1, rfl, HA, HJ1, HO_3, HB⟩ := hcut
    cases kq with
    | zero => exact absurd HA.out (by simp [recensionlaw25_Cut.j1])
    | succ kj1 =>
     have H := HA.out
     clear HA
     simp only [recensionlaw25_Cut.j1] at H
     by_cases c4 : x13_1 = true
     ·subst c4
      have H1 : (if 0 ≤ x4_1 then (if x4_1 < (l0.length : Int) then ((recensionlaw3_Cut.f ((rd_T56 l0 x4_1).f0) 20).bind fun t138 => ((recensionlaw3_Cut.f ((rd_T56 l0 x4_1).f3) 60).bind fun t139 => ((recensionlaw3_Cut.f ((rd_T56 l0 x4_1).f4) 60).bind fun t140 => (if x3_1.length < 2513169434916 then (recensionlaw25_Cut.l0 kj1 l0 (x3_1 ++ [(⟨t138, (rd_T56 l0 x4_1).f1, (rd_T56 l0 x4_1).f2, t139, t140⟩ : S56)]) (wrap64 (x4_1 + 1))) else (none))))) else (none)) else (none)) = some r := by rw [if_pos rfl] at H; exact H
      clear H
      have H := H1
      clear H1
      by_cases c5 : 0 ≤ x4_1
      ·rw [if_pos c5] at H
       have c5b0 : decide (0 ≤ x4_1) = true := decide_eq_true c5
       clear c5
       by_cases c6 : x4_1 < (l0.length : Int)
       ·rw [if_pos c6] at H
        have c6b0 : decide (x4_1 < (l0.length : Int)) = true := decide_eq_true c6
        clear c6
        replace H := Option.bind_eq_some_iff.mp H
        obtain ⟨t138, A70, H⟩ := H
        replace H : ((recensionlaw3_Cut.f ((rd_T56 l0 x4_1).f3) 60).bind fun t139 => ((recensionlaw3_Cut.f ((rd_T56 l0 x4_1).f4) 60).bind fun t140 => (if x3_1.length < 2513169434916 then (recensionlaw25_Cut.l0 kj1 l0 (x3_1 ++ [(⟨t138, (rd_T56 l0 x4_1).f1, (rd_T56 l0 x4_1).f2, t139, t140⟩ : S56)]) (wrap64 (x4_1 + 1))) else (none)))) = some r := H
        have A7 := Aside0.mk A70
        clear A70
        replace H := Option.bind_eq_some_iff.mp H
        obtain ⟨t139, A80, H⟩ := H
        replace H : ((recensionlaw3_Cut.f ((rd_T56 l0 x4_1).f4) 60).bind fun t140 => (if x3_1.length < 2513169434916 then (recensionlaw25_Cut.l0 kj1 l0 (x3_1 ++ [(⟨t138, (rd_T56 l0 x4_1).f1, (rd_T56 l0 x4_1).f2, t139, t140⟩ : S56)]) (wrap64 (x4_1 + 1))) else (none))) = some r := H
        have A8 := Aside0.mk A80
        clear A80
        replace H := Option.bind_eq_some_iff.mp H
        obtain ⟨t140, A90, H⟩ := H
        replace H : (if x3_1.length < 2513169434916 then (recensionlaw25_Cut.l0 kj1 l0 (x3_1 ++ [(⟨t138, (rd_T56 l0 x4_1).f1, (rd_T56 l0 x4_1).f2, t139, t140⟩ : S56)]) (wrap64 (x4_1 + 1))) else (none)) = some r := H
        have A9 := Aside0.mk A90
        clear A90
        by_cases c10 : x3_1.length < 2513169434916
        ·rw [if_pos c10] at H
         have LMc10 := Aside0.mk c10
         clear c10
         obtain ⟨y141, hy141⟩ : ∃ y_ : List (S56), y_ = (x3_1 ++ [(⟨t138, (rd_T56 l0 x4_1).f1, (rd_T56 l0 x4_1).f2, t139, t140⟩ : S56)]) := ⟨_, rfl⟩
         replace H : (recensionlaw25_Cut.l0 kj1 l0 y141 (wrap64 (x4_1 + 1))) = some r := by first | (rw [hy141]; with_reducible exact H) | (have H2_ := (Option.bind_some _ _).symm.trans H; rw [hy141]; with_reducible exact H2_) | (have H2_ := (Option.bind_some _ _).symm.trans H; with_reducible exact H2_) | with_reducible exact H | (rw [hy141]; exact H) | exact H
         have Ny141 := Aside0.mk hy141
         clear hy141
         have H' := Aside0.mk H
         clear H
         have p136 : 0 ≤ (x4_1 : Int) := of_decide_eq_true (by first | (with_reducible assumption) | assumption)
         have q136 : x4_1 < (l0.length : Int) := of_decide_eq_true (by first | (with_reducible assumption) | assumption)
         obtain ⟨ad136, e136, hx136_0, hx136_1, hx136_2, hx136_3, hx136_4⟩ := at_T56 HR0.out x4_1 p136 q136
         cases e136
         replace hx136_0 := (HB.out.cell (World.block_lt_of_cell? w _ hx136_0)).trans hx136_0
         replace hx136_1 := (HB.out.cell (World.block_lt_of_cell? w _ hx136_1)).trans hx136_1
         replace hx136_2 := (HB.out.cell (World.block_lt_of_cell? w _ hx136_2)).trans hx136_2
         replace hx136_3 := (HB.out.cell (World.block_lt_of_cell? w _ hx136_3)).trans hx136_3
         replace hx136_4 := (HB.out.cell (World.block_lt_of_cell? w _ hx136_4)).trans hx136_4
         replace p136 := eq_true p136
         replace q136 := eq_true q136
         try go_wp2_with (first | ((with_reducible refine gate_dst (N := 5) rfl ?_); refine box_event ?hg (N := 5) ?hd (cs := #[.string (⟨#[]⟩ : ByteArray), .bool false, .bool false, .string (⟨#[]⟩ : ByteArray), .string (⟨#[]⟩ : ByteArray)]) (t := 56) ?hr ?_; (case hd => rfl); (case hg => rfl); (case hr => first | (go_simp; done) | (go_simp; rfl)); intro gb137 hg w11 hbox hb; have n0_ := Aside0.mk (Kd.R_below (Kd.R_elderB (by (with_reducible repeat (first | apply Kd.R_alloc | apply Kd.R_drewN | apply Kd.R_drew)); exact HO_3.out) gb137 (Nat.le_of_eq hg.symm)) hb); have n1_ := Aside0.mk (below_step (by repeat (first | (with_reducible first | exact HB.out | apply below_alloc | apply pw_below_drewN | apply below_drew1) | exact HB.out)) hb); have n2_ := Aside0.mk (hbox); have n3_ := Aside0.mk ((by rw [hg]; exact (below_size (by repeat (first | (with_reducible first | exact HB.out | apply below_alloc | apply pw_below_drewN | apply below_drew1) | exact HB.out))) : w.heap.size ≤ gb137)); have n4_ := Aside0.mk ((by rw [hg]; exact (below_size (by repeat (first | (with_reducible first | exact HB.out | apply below_alloc | apply pw_below_drewN | apply below_drew1) | exact HB.out))) : w.heap.size ≤ gb137)); clear HO_3; clear HB; have HO_3 := n0_; have HB := n1_; have BK137 := n2_; have GW137 := n3_; have GE137 := n4_; clear n0_ n1_ n2_ n3_ n4_; clear hb hbox hg; have hcz12_0 : w11.cell? ⟨gb137, 0, none⟩ = some (.string (⟨#[]⟩ : ByteArray)) := (blk_cell BK137.out 0).trans rfl; have hcz12_1 : w11.cell? ⟨gb137, 1, none⟩ = some (.bool false) := (blk_cell BK137.out 1).trans rfl; have hcz12_2 : w11.cell? ⟨gb137, 2, none⟩ = some (.bool false) := (blk_cell BK137.out 2).trans rfl; have hcz12_3 : w11.cell? ⟨gb137, 3, none⟩ = some (.string (⟨#[]⟩ : ByteArray)) := (blk_cell BK137.out 3).trans rfl; have hcz12_4 : w11.cell? ⟨gb137, 4, none⟩ = some (.string (⟨#[]⟩ : ByteArray)) := (blk_cell BK137.out 4).trans rfl; have hfz12_0 := blk_frozen BK137.out 0; have hfz12_1 := blk_frozen BK137.out 1; have hfz12_2 := blk_frozen BK137.out 2; have hfz12_3 := blk_frozen BK137.out 3; have hfz12_4 := blk_frozen BK137.out 4) | ((with_reducible refine gate_store (t := 56) (p := 5) rfl ?_); refine store_event (t := 56) (p := 5) (v := ?vo_w13) (w1 := (((((w11.setCell ⟨gb137, 0, none⟩ (.string ((rd_T56 l0 x4_1).f0))).setCell ⟨gb137, 1, none⟩ (.bool ((rd_T56 l0 x4_1).f1))).setCell ⟨gb137, 2, none⟩ (.bool ((rd_T56 l0 x4_1).f2))).setCell ⟨gb137, 3, none⟩ (.string ((rd_T56 l0 x4_1).f3))).setCell ⟨gb137, 4, none⟩ (.string ((rd_T56 l0 x4_1).f4)))) ?hg ?ho ?hn ?hr ?_; (case ho => rfl); (case hg => rfl); (case hn => rfl); (case hr => first | (go_simp; done) | (go_simp; rfl)); intro w13 hw; have n0_ : Aside0 (Kd.R k56 56 w13 w.heap.size (fun k_ => k_ ≠ gb137) u3 x3_1) := ⟨(by rw [hw]; exact (by (with_reducible repeat (first | apply Kd.R_alloc | apply Kd.R_drewN | apply Kd.R_drew)); exact Kd.R_mono (Kd.R_far (p := ⟨gb137, 4, none⟩) (Kd.R_far (p := ⟨gb137, 3, none⟩) (Kd.R_far (p := ⟨gb137, 2, none⟩) (Kd.R_far (p := ⟨gb137, 1, none⟩) (Kd.R_far (p := ⟨gb137, 0, none⟩) (Kd.R_mono HO_3.out (fun k_ hk => (⟨hk, hk.2⟩ : _ ∧ k_ ≠ gb137))) (fun _ hk => hk.2) (.string ((rd_T56 l0 x4_1).f0))) (fun _ hk => hk.2) (.bool ((rd_T56 l0 x4_1).f1))) (fun _ hk => hk.2) (.bool ((rd_T56 l0 x4_1).f2))) (fun _ hk => hk.2) (.string ((rd_T56 l0 x4_1).f3))) (fun _ hk => hk.2) (.string ((rd_T56 l0 x4_1).f4))) (fun _ hk => by first | exact hk.1.2 | ((try simp only [and_assoc] at hk); (try simp only [and_assoc]); exact hk.1))))⟩; have n1_ : Aside0 (w13.heap[gb137]? = some (.cells #[.string ((rd_T56 l0 x4_1).f0), .bool ((rd_T56 l0 x4_1).f1), .bool ((rd_T56 l0 x4_1).f2), .string ((rd_T56 l0 x4_1).f3), .string ((rd_T56 l0 x4_1).f4)] 56 (0, 0))) := ⟨(by rw [hw]; exact (by (with_reducible repeat (first | refine blk_drewN ?_ _ | refine blk_drew ?_ | refine blk_alloc ?_ _)); refine blk_put (cs := #[.string ((rd_T56 l0 x4_1).f0), .bool ((rd_T56 l0 x4_1).f1), .bool ((rd_T56 l0 x4_1).f2), .string ((rd_T56 l0 x4_1).f3), .string (⟨#[]⟩ : ByteArray)]) ?_ 4 _ rfl; (with_reducible repeat (first | refine blk_drewN ?_ _ | refine blk_drew ?_ | refine blk_alloc ?_ _)); refine blk_put (cs := #[.string ((rd_T56 l0 x4_1).f0), .bool ((rd_T56 l0 x4_1).f1), .bool ((rd_T56 l0 x4_1).f2), .string (⟨#[]⟩ : ByteArray), .string (⟨#[]⟩ : ByteArray)]) ?_ 3 _ rfl; (with_reducible repeat (first | refine blk_drewN ?_ _ | refine blk_drew ?_ | refine blk_alloc ?_ _)); refine blk_put (cs := #[.string ((rd_T56 l0 x4_1).f0), .bool ((rd_T56 l0 x4_1).f1), .bool false, .string (⟨#[]⟩ : ByteArray), .string (⟨#[]⟩ : ByteArray)]) ?_ 2 _ rfl; (with_reducible repeat (first | refine blk_drewN ?_ _ | refine blk_drew ?_ | refine blk_alloc ?_ _)); refine blk_put (cs := #[.string ((rd_T56 l0 x4_1).f0), .bool false, .bool false, .string (⟨#[]⟩ : ByteArray), .string (⟨#[]⟩ : ByteArray)]) ?_ 1 _ rfl; (with_reducible repeat (first | refine blk_drewN ?_ _ | refine blk_drew ?_ | refine blk_alloc ?_ _)); refine blk_put (cs := #[.string (⟨#[]⟩ : ByteArray), .bool false, .bool false, .string (⟨#[]⟩ : ByteArray), .string (⟨#[]⟩ : ByteArray)]) ?_ 0 _ rfl; (with_reducible repeat (first | refine blk_drewN ?_ _ | refine blk_drew ?_ | refine blk_alloc ?_ _)); exact BK137.out))⟩; have n2_ : Aside0 (Below w.heap.size w w13) := ⟨(by rw [hw]; exact (by repeat (first | (with_reducible first | exact HB.out | apply below_alloc | apply pw_below_drewN | apply below_drew1 | refine below_set ?_ GE137.out) | exact HB.out)))⟩; clear hw; clear HO_3; clear BK137; clear HB; have HO_3 := n0_; have BK137 := n1_; have HB := n2_; clear n0_ n1_ n2_))
         have n0_ := Aside0.mk (Kd.R_drew HO_3.out)
         have n1_ := Aside0.mk (blk_drew BK137.out)
         have n2_ := Aside0.mk (below_drew1 HB.out)
         clear HO_3
         clear BK137
         clear HB
         have HO_3 := n0_
         have BK137 := n1_
         have HB := n2_
         clear n0_ n1_ n2_
         refine start_ (n := 15) (S := fun w' => w'.cell? ⟨gb137, 0, none⟩ = some (.string ((rd_T56 l0 x4_1).f0)) ∧ w'.cell? ⟨gb137, 1, none⟩ = some (.bool ((rd_T56 l0 x4_1).f1)) ∧ w'.cell? ⟨gb137, 2, none⟩ = some (.bool ((rd_T56 l0 x4_1).f2)) ∧ w'.cell? ⟨gb137, 3, none⟩ = some (.string ((rd_T56 l0 x4_1).f3)) ∧ w'.cell? ⟨gb137, 4, none⟩ = some (.string ((rd_T56 l0 x4_1).f4))) (ds := [10, 12, 14]) #[false, false, false, false, false, false, false, false, false, false, false, false, false, false, false] (by kernel_rfl) rfl rfl ⟨(blk_cell BK137.out 0).trans rfl, (blk_cell BK137.out 1).trans rfl, (blk_cell BK137.out 2).trans rfl, (blk_cell BK137.out 3).trans rfl, (blk_cell BK137.out 4).trans rfl⟩ (fun hHeld => ?_); refine with_tabW recensionlaw25_Cut.tab6 recensionlaw25_Cut.bits6 (fun HT_ HW_ => ?_)
         generalize w13.drew = w14 at HO_3 BK137 HB hHeld ⊢
         refine pure_ (i := 0) (N := some 20) (v := ?_) (a' := ?_) #[true, false, false, false, false, false, false, false, false, false, false, false, false, false, false] rfl rfl (any_of HT_.out (by kernel_rfl)) (fun _ _ _ h => h) (Or.inl ⟨by rfl, ?_⟩) ?_ ?_
         rotate_left
         ·intro w'
          go_simp
          with_reducible rfl
         rotate_left
         ·simp only [Act.put, List.setIfInBounds_toArray, List.set_cons_zero, List.set_cons_succ, i64_w, i32_w]
          rfl
         refine pure_ (i := 3) (N := some 23) (v := ?_) (a' := ?_) #[true, false, false, true, false, false, false, false, false, false, false, false, false, false, false] rfl rfl (any_of HT_.out (by kernel_rfl)) (fun _ _ _ h => h) (Or.inl ⟨by rfl, ?_⟩) ?_ ?_
         rotate_left
         ·intro w'
          go_simp
          with_reducible rfl
         rotate_left
         ·simp only [Act.put, List.setIfInBounds_toArray, List.set_cons_zero, List.set_cons_succ, i64_w, i32_w]
          rfl
         refine pure_ (i := 6) (N := some 26) (v := ?_) (a' := ?_) #[true, false, false, true, false, false, true, false, false, false, false, false, false, false, false] rfl rfl (any_of HT_.out (by kernel_rfl)) (fun _ _ _ h => h) (Or.inl ⟨by rfl, ?_⟩) ?_ ?_
         rotate_left
         ·intro w'
          go_simp
          with_reducible rfl
         rotate_left
         ·simp only [Act.put, List.setIfInBounds_toArray, List.set_cons_zero, List.set_cons_succ, i64_w, i32_w]
          rfl
         refine take_ (i := 1) (N := some 21) (v := ?_) (a' := ?_) #[true, true, false, true, false, false, true, false, false, false, false, false, false, false, false] rfl rfl (take_ofW HT_.out HW_.out (by kernel_rfl)) (fun _ _ _ h => h) (Or.inl ⟨by rfl, ?_⟩) hHeld ?_ ?_
         rotate_left
         ·rintro w' ⟨s0, s1, s2, s3, s4⟩
          go_simp
          with_reducible rfl
         rotate_left
         ·simp only [Act.put, List.setIfInBounds_toArray, List.set_cons_zero, List.set_cons_succ, i64_w, i32_w]
          rfl
         refine take_ (i := 4) (N := some 24) (v := ?_) (a' := ?_) #[true, true, false, true, true, false, true, false, false, false, false, false, false, false, false] rfl rfl (take_ofW HT_.out HW_.out (by kernel_rfl)) (fun _ _ _ h => h) (Or.inl ⟨by rfl, ?_⟩) hHeld ?_ ?_
         rotate_left
         ·rintro w' ⟨s0, s1, s2, s3, s4⟩
          go_simp
          with_reducible rfl
         rotate_left
         ·simp only [Act.put, List.setIfInBounds_toArray, List.set_cons_zero, List.set_cons_succ, i64_w, i32_w]
          rfl
         refine take_ (i := 7) (N := some 27) (v := ?_) (a' := ?_) #[true, true, false, true, true, false, true, true, false, false, false, false, false, false, false] rfl rfl (take_ofW HT_.out HW_.out (by kernel_rfl)) (fun _ _ _ h => h) (Or.inl ⟨by rfl, ?_⟩) hHeld ?_ ?_
         rotate_left
         ·rintro w' ⟨s0, s1, s2, s3, s4⟩
          go_simp
          with_reducible rfl
         rotate_left
         ·simp only [Act.put, List.setIfInBounds_toArray, List.set_cons_zero, List.set_cons_succ, i64_w, i32_w]
          rfl
         refine one_ (i := 2) (N := some 22) #[true, true, true, true, true, false, true, true, false, false, false, false, false, false, false] rfl rfl (one_of HT_.out (by kernel_rfl)) (by decide) (fun K hK => ?_)
         refine goes_ Try.func28 (by kernel_rfl) rfl #[.string ((rd_T56 l0 x4_1).f0), .int .i64 20] (by rfl) rfl rfl (by (try simp only [List.map_toArray, List.map_cons, List.map_nil]); first | done | rfl | (simp only [List.length_drop, List.length_take]; rfl) | (simp only [wrap64_wl, wrap64_wr]; rfl)) ?_
         with_reducible refine (recensionlaw3_Cut.calls ((rd_T56 l0 x4_1).f0) 20 t138 _ A7.out).mono ?_
         rintro e w' ⟨rfl, ⟨nd, rfl⟩⟩
         refine ⟨_, rfl, ?_⟩
         refine hK.out _ _ ⟨(blk_cell BK137.out 0).trans rfl, (blk_cell BK137.out 1).trans rfl, (blk_cell BK137.out 2).trans rfl, (blk_cell BK137.out 3).trans rfl, (blk_cell BK137.out 4).trans rfl⟩ (fun hHeld => ?_)
         clear hK K
         refine norm_ (a' := ?_) ?_ ?_
         rotate_left
         ·show Act.put _ (some 22) _ = _
          simp only [Act.put, List.setIfInBounds_toArray, List.set_cons_zero, List.set_cons_succ, i64_w, i32_w]
          rfl
         refine pure_ (i := 9) (N := some 29) (v := ?_) (a' := ?_) #[true, true, true, true, true, false, true, true, false, true, false, false, false, false, false] rfl rfl (any_of HT_.out (by kernel_rfl)) (fun _ _ _ h => h) (Or.inl ⟨by rfl, ?_⟩) ?_ ?_
         rotate_left
         ·intro w'
          go_simp
          with_reducible rfl
         rotate_left
         ·simp only [Act.put, List.setIfInBounds_toArray, List.set_cons_zero, List.set_cons_succ, i64_w, i32_w]
          rfl
         refine one_ (i := 5) (N := some 25) #[true, true, true, true, true, true, true, true, false, true, false, false, false, false, false] rfl rfl (one_of HT_.out (by kernel_rfl)) (by decide) (fun K hK => ?_)
         refine goes_ Try.func28 (by kernel_rfl) rfl #[.string ((rd_T56 l0 x4_1).f3), .int .i64 60] (by rfl) rfl rfl (by (try simp only [List.map_toArray, List.map_cons, List.map_nil]); first | done | rfl | (simp only [List.length_drop, List.length_take]; rfl) | (simp only [wrap64_wl, wrap64_wr]; rfl)) ?_
         with_reducible refine (recensionlaw3_Cut.calls ((rd_T56 l0 x4_1).f3) 60 t139 _ A8.out).mono ?_
         rintro e w' ⟨rfl, ⟨nd, rfl⟩⟩
         refine ⟨_, rfl, ?_⟩
         refine hK.out _ _ ⟨(blk_cell BK137.out 0).trans rfl, (blk_cell BK137.out 1).trans rfl, (blk_cell BK137.out 2).trans rfl, (blk_cell BK137.out 3).trans rfl, (blk_cell BK137.out 4).trans rfl⟩ (fun hHeld => ?_)
         clear hK K
         refine norm_ (a' := ?_) ?_ ?_
         rotate_left
         ·show Act.put _ (some 25) _ = _
          simp only [Act.put, List.setIfInBounds_toArray, List.set_cons_zero, List.set_cons_succ, i64_w, i32_w]
          rfl
         refine one_ (i := 8) (N := some 28) #[true, true, true, true, true, true, true, true, true, true, false, false, false, false, false] rfl rfl (one_of HT_.out (by kernel_rfl)) (by decide) (fun K hK => ?_)
         refine goes_ Try.func28 (by kernel_rfl) rfl #[.string ((rd_T56 l0 x4_1).f4), .int .i64 60] (by rfl) rfl rfl (by (try simp only [List.map_toArray, List.map_cons, List.map_nil]); first | done | rfl | (simp only [List.length_drop, List.length_take]; rfl) | (simp only [wrap64_wl, wrap64_wr]; rfl)) ?_
         with_reducible refine (recensionlaw3_Cut.calls ((rd_T56 l0 x4_1).f4) 60 t140 _ A9.out).mono ?_
         rintro e w' ⟨rfl, ⟨nd, rfl⟩⟩
         refine ⟨_, rfl, ?_⟩
         refine hK.out _ _ ⟨(blk_cell BK137.out 0).trans rfl, (blk_cell BK137.out 1).trans rfl, (blk_cell BK137.out 2).trans rfl, (blk_cell BK137.out 3).trans rfl, (blk_cell BK137.out 4).trans rfl⟩ (fun hHeld => ?_)
         clear hK K
         refine norm_ (a' := ?_) ?_ ?_
         rotate_left
         ·show Act.put _ (some 28) _ = _
          simp only [Act.put, List.setIfInBounds_toArray, List.set_cons_zero, List.set_cons_succ, i64_w, i32_w]
          rfl
         refine last_ (i := 10) (N := none) #[true, true, true, true, true, true, true, true, true, true, true, false, false, false, false] rfl rfl (one_of HT_.out (by kernel_rfl)) (by decide) (fun K hK => ?_)
         have hs15 : w14.cell? ⟨gb137, 0, none⟩ = some (.string ((rd_T56 l0 x4_1).f0)) := (blk_cell BK137.out 0).trans rfl
         have hfs15 := blk_frozen BK137.out 0
         refine skip_ (w1 := ?_) ?_ ?_ ?_ ?_
         rotate_left
         ·rfl
         ·rfl
         ·go_simp
          rfl
         refine hK.out _ _ ?_
         clear hK K
         refine pure_ (i := 11) (N := some 30) (v := ?_) (a' := ?_) #[true, true, true, true, true, true, true, true, true, true, true, true, false, false, false] rfl rfl (any_of HT_.out (by kernel_rfl)) (fun _ _ _ h => h) (Or.inl ⟨by rfl, ?_⟩) ?_ ?_
         rotate_left
         ·intro w'
          go_simp
          with_reducible rfl
         rotate_left
         ·simp only [Act.put, List.setIfInBounds_toArray, List.set_cons_zero, List.set_cons_succ, i64_w, i32_w]
          rfl
         refine last_ (i := 12) (N := none) #[true, true, true, true, true, true, true, true, true, true, true, true, true, false, false] rfl rfl (one_of HT_.out (by kernel_rfl)) (by decide) (fun K hK => ?_)
         have hs16 : w14.cell? ⟨gb137, 3, none⟩ = some (.string ((rd_T56 l0 x4_1).f3)) := (blk_cell BK137.out 3).trans rfl
         have hfs16 := blk_frozen BK137.out 3
         refine skip_ (w1 := ?_) ?_ ?_ ?_ ?_
         rotate_left
         ·rfl
         ·rfl
         ·go_simp
          rfl
         refine hK.out _ _ ?_
         clear hK K
         refine pure_ (i := 13) (N := some 31) (v := ?_) (a' := ?_) #[true, true, true, true, true, true, true, true, true, true, true, true, true, true, false] rfl rfl (any_of HT_.out (by kernel_rfl)) (fun _ _ _ h => h) (Or.inl ⟨by rfl, ?_⟩) ?_ ?_
         rotate_left
         ·intro w'
          go_simp
          with_reducible rfl
         rotate_left
         ·simp only [Act.put, List.setIfInBounds_toArray, List.set_cons_zero, List.set_cons_succ, i64_w, i32_w]
          rfl
         refine last_ (i := 14) (N := none) #[true, true, true, true, true, true, true, true, true, true, true, true, true, true, true] rfl rfl (one_of HT_.out (by kernel_rfl)) (by decide) (fun K hK => ?_)
         have hs17 : w14.cell? ⟨gb137, 4, none⟩ = some (.string ((rd_T56 l0 x4_1).f4)) := (blk_cell BK137.out 4).trans rfl
         have hfs17 := blk_frozen BK137.out 4
         refine skip_ (w1 := ?_) ?_ ?_ ?_ ?_
         rotate_left
         ·rfl
         ·rfl
         ·go_simp
          rfl
         refine hK.out _ _ ?_
         clear hK K
         refine done_ (done_of HT_.out (by kernel_rfl)) ?_
         have hcz18_0 : w14.cell? ⟨gb137, 0, none⟩ = some (.string ((rd_T56 l0 x4_1).f0)) := (blk_cell BK137.out 0).trans rfl
         have hcz18_1 : w14.cell? ⟨gb137, 1, none⟩ = some (.bool ((rd_T56 l0 x4_1).f1)) := (blk_cell BK137.out 1).trans rfl
         have hcz18_2 : w14.cell? ⟨gb137, 2, none⟩ = some (.bool ((rd_T56 l0 x4_1).f2)) := (blk_cell BK137.out 2).trans rfl
         have hcz18_3 : w14.cell? ⟨gb137, 3, none⟩ = some (.string ((rd_T56 l0 x4_1).f3)) := (blk_cell BK137.out 3).trans rfl
         have hcz18_4 : w14.cell? ⟨gb137, 4, none⟩ = some (.string ((rd_T56 l0 x4_1).f4)) := (blk_cell BK137.out 4).trans rfl
         have hfz18_0 := blk_frozen BK137.out 0
         have hfz18_1 := blk_frozen BK137.out 1
         have hfz18_2 := blk_frozen BK137.out 2
         have hfz18_3 := blk_frozen BK137.out 3
         have hfz18_4 := blk_frozen BK137.out 4
         try go_wp2_with (first | ((with_reducible refine gate_builtin (b := .append) (xs := #[.tmp 32, .tmp 34]) rfl ?_); at_builtin; refine Kd.R_append k56 (w0 := w) w.heap.size rfl (.tmp 32) (.tmp 34) 30 56 (.agg #[(.string ⟨#[]⟩), (.bool false), (.bool false), (.string ⟨#[]⟩), (.string ⟨#[]⟩)]) 56 rfl Try.underlying30 info56 rfl (by decide) (by omega) u3 x3_1 (⟨t138, (rd_T56 l0 x4_1).f1, (rd_T56 l0 x4_1).f2, t139, t140⟩ : S56) [.string t138, .bool ((rd_T56 l0 x4_1).f1), .bool ((rd_T56 l0 x4_1).f2), .string t139, .string t140] (fun k_ => k_ ≠ gb137) (fun _ => False) rfl (by first | (go_simp; done) | (go_simp; rfl)) ?aP (fun _ hk => hk.elim) ?aF ?aO ?aB ?aS ?aL ?_; (case aP => exact k56_mkM _ _ _ (⟨t138, (rd_T56 l0 x4_1).f1, (rd_T56 l0 x4_1).f2, t139, t140⟩ : S56)); (case aB => exact (by repeat (first | (with_reducible first | exact HB.out | apply below_alloc | apply pw_below_drewN | apply below_drew1 | refine below_set ?_ GE137.out) | exact HB.out))); (case aF => exact (fun k_ hk => Kd.freshB (g := gb137) (o := .cells #[.string t138, .bool ((rd_T56 l0 x4_1).f1), .bool ((rd_T56 l0 x4_1).f2), .string t139, .string t140] 56 (0, 0)) (by (with_reducible repeat (first | refine blk_drewN ?_ _ | refine blk_drew ?_ | refine blk_alloc ?_ _)); refine blk_put (cs := #[.string t138, .bool ((rd_T56 l0 x4_1).f1), .bool ((rd_T56 l0 x4_1).f2), .string t139, .string ((rd_T56 l0 x4_1).f4)]) ?_ 4 _ rfl; (with_reducible repeat (first | refine blk_drewN ?_ _ | refine blk_drew ?_ | refine blk_alloc ?_ _)); refine blk_put (cs := #[.string t138, .bool ((rd_T56 l0 x4_1).f1), .bool ((rd_T56 l0 x4_1).f2), .string ((rd_T56 l0 x4_1).f3), .string ((rd_T56 l0 x4_1).f4)]) ?_ 3 _ rfl; (with_reducible repeat (first | refine blk_drewN ?_ _ | refine blk_drew ?_ | refine blk_alloc ?_ _)); refine blk_put (cs := #[.string ((rd_T56 l0 x4_1).f0), .bool ((rd_T56 l0 x4_1).f1), .bool ((rd_T56 l0 x4_1).f2), .string ((rd_T56 l0 x4_1).f3), .string ((rd_T56 l0 x4_1).f4)]) ?_ 0 _ rfl; (with_reducible repeat (first | refine blk_drewN ?_ _ | refine blk_drew ?_ | refine blk_alloc ?_ _)); exact BK137.out) k_ hk)); (case aO => exact (by (with_reducible repeat (first | apply Kd.R_alloc | apply Kd.R_drewN | apply Kd.R_drew)); exact Kd.R_mono (Kd.R_far (p := ⟨gb137, 4, none⟩) (Kd.R_far (p := ⟨gb137, 3, none⟩) (Kd.R_far (p := ⟨gb137, 0, none⟩) (Kd.R_mono HO_3.out (fun k_ hk => (⟨hk, hk⟩ : _ ∧ k_ ≠ gb137))) (fun _ hk => hk.2) (.string t138)) (fun _ hk => hk.2) (.string t139)) (fun _ hk => hk.2) (.string t140)) (fun _ hk => by first | exact hk.1 | ((try simp only [and_assoc] at hk); (try simp only [and_assoc]); exact hk.1)))); (case aS => exact (below_size (by repeat (first | (with_reducible first | exact HB.out | apply below_alloc | apply pw_below_drewN | apply below_drew1 | refine below_set ?_ GE137.out) | exact HB.out)))); (case aL => have := LMc10.out; omega); intro v142 w19 ho hb hg hat; rw [← Ny141.out] at ho; have n0_ := Aside0.mk (blk_grown (g := gb137) (o := .cells #[.string t138, .bool ((rd_T56 l0 x4_1).f1), .bool ((rd_T56 l0 x4_1).f2), .string t139, .string t140] 56 (0, 0)) (by (with_reducible repeat (first | refine blk_drewN ?_ _ | refine blk_drew ?_ | refine blk_alloc ?_ _)); refine blk_put (cs := #[.string t138, .bool ((rd_T56 l0 x4_1).f1), .bool ((rd_T56 l0 x4_1).f2), .string t139, .string ((rd_T56 l0 x4_1).f4)]) ?_ 4 _ rfl; (with_reducible repeat (first | refine blk_drewN ?_ _ | refine blk_drew ?_ | refine blk_alloc ?_ _)); refine blk_put (cs := #[.string t138, .bool ((rd_T56 l0 x4_1).f1), .bool ((rd_T56 l0 x4_1).f2), .string ((rd_T56 l0 x4_1).f3), .string ((rd_T56 l0 x4_1).f4)]) ?_ 3 _ rfl; (with_reducible repeat (first | refine blk_drewN ?_ _ | refine blk_drew ?_ | refine blk_alloc ?_ _)); refine blk_put (cs := #[.string ((rd_T56 l0 x4_1).f0), .bool ((rd_T56 l0 x4_1).f1), .bool ((rd_T56 l0 x4_1).f2), .string ((rd_T56 l0 x4_1).f3), .string ((rd_T56 l0 x4_1).f4)]) ?_ 0 _ rfl; (with_reducible repeat (first | refine blk_drewN ?_ _ | refine blk_drew ?_ | refine blk_alloc ?_ _)); exact BK137.out) hg (Kd.R_away HO_3.out (fun _ hk => hk))); have n1_ := Aside0.mk (hb); have n2_ := Aside0.mk (ho); clear BK137; clear HB; clear HO_3; have BK137 := n0_; have HB := n1_; have HO143 := n2_; clear n0_ n1_ n2_; clear ho hb hg hat))
         go_roundg kj1
         case measure => have := HK1.out; have := HJ1.out; omega
         case rel => exact ⟨(y141), (wrap64 (x4_1 + 1)), (by first | rfl | (simp; done) | (simp [*]; done)), H', ⟨by have := HK1.out; have := HJ1.out; omega⟩, ⟨by (with_reducible repeat (first | apply Kd.R_alloc | apply Kd.R_drewN | apply Kd.R_drew)); exact Kd.R_mono HO143.out (fun _ hk => by first | exact trivial | ((try simp only [and_assoc] at hk); (try simp only [and_assoc]); exact trivial))⟩, ⟨by repeat (first | (with_reducible first | exact HB.out | apply below_alloc | apply pw_below_drewN | apply below_drew1 | refine below_set ?_ GE137.out) | exact HB.out)⟩⟩
        ·rw [if_neg c10] at H
         exact absurd H (by simp)
       ·rw [if_neg c6] at H
        exact absurd H (by simp)
      ·rw [if_neg c5] at H
       exact absurd H (by simp)
     ·replace c4 := Bool.eq_false_iff.mpr c4
      subst c4
      have H1 : (some x3_1) = some r := by rw [if_neg (show ¬ (false = true) by decide)] at H; exact H
      clear H
      have H := H1
      clear H1
      obtain rfl := Option.some.inj H
      go_wp2
      go_ret
      exact ⟨_, by first | rfl | (simp [errW_none, errW_some] <;> rfl) | (simp [*, errW_none, errW_some] <;> rfl), by (with_reducible repeat (first | apply Kd.R_alloc | apply Kd.R_drewN | apply Kd.R_drew)); exact HO_3.out, by repeat (first | (with_reducible first | exact HB.out | apply below_alloc | apply pw_below_drewN | apply below_drew1) | exact HB.out)⟩

/-! ### recensionlaw1_Short: function 25 -/
def recensionlaw1_Short.f (l0 : List Int) (a1 : Int) : Option (List Int) := if (l0.length : Int) > a1 then (if 0 ≤ a1 then (if a1 ≤ (l0.length : Int) then (some (l0.take (a1 : Int).toNat)) else (none)) else (none)) else (some l0)
set_option maxHeartbeats 8000000 in
set_option maxRecDepth 100000 in
theorem recensionlaw1_Short.calls (P0_ : Nat → Prop) (A0 : Option Addr) (c0 : Nat) (l0 : List Int) (a1 : Int) (r : List Int) (w : World) (hs0 : Kd.V (Kd.int .u8) 5 w w.heap.size (fun k_ => P0_ k_) (.slice A0 l0.length c0) l0) (h : recensionlaw1_Short.f l0 a1 = some r) :
  Calls Try.prog 25 #[.slice A0 l0.length c0, .int .i64 a1] w fun e w' => ∃ v0_ : Value, e = .returned (v0_) ∧ Kd.V (Kd.int .u8) 5 w' w.heap.size (fun k_ => (P0_ k_ ∨ w.heap.size ≤ k_)) v0_ r ∧ Below w.heap.size w w' := by
 have HO0 := Aside0.mk (show Kd.V (Kd.int .u8) 5 w w.heap.size (fun k_ => (P0_ k_ ∨ w.heap.size ≤ k_)) (.slice A0 l0.length c0) l0 from Kd.V_mono hs0 (fun k_ hk => .inl hk))
 have HB := Aside0.mk (Below.refl w.heap.size w)
 have H : (if (l0.length : Int) > a1 then (if 0 ≤ a1 then (if a1 ≤ (l0.length : Int) then (some (l0.take (a1 : Int).toNat)) else (none)) else (none)) else (some l0)) = some r := h
 clear h
 by_cases c3 : (l0.length : Int) > a1
 ·rw [if_pos c3] at H
  have c3b0 : decide (a1 < (l0.length : Int)) = true := decide_eq_true c3
  clear c3
  by_cases c4 : 0 ≤ a1
  ·rw [if_pos c4] at H
   have c4b0 := eq_true c4
   have c4b1 : decide (0 ≤ a1) = true := decide_eq_true c4
   clear c4
   by_cases c5 : a1 ≤ (l0.length : Int)
   ·rw [if_pos c5] at H
    have c5b0 := eq_true c5
    have c5b1 : decide (a1 ≤ (l0.length : Int)) = true := decide_eq_true c5
    clear c5
    obtain ⟨y144, hy144⟩ : ∃ y_ : List Int, y_ = (l0.take (a1 : Int).toNat) := ⟨_, rfl⟩
    replace H : (some y144) = some r := by first | (rw [hy144]; with_reducible exact H) | (have H2_ := (Option.bind_some _ _).symm.trans H; rw [hy144]; with_reducible exact H2_) | (have H2_ := (Option.bind_some _ _).symm.trans H; with_reducible exact H2_) | with_reducible exact H | (rw [hy144]; exact H) | exact H
    have Ny144 := Aside0.mk hy144
    clear hy144
    obtain rfl := Option.some.inj H
    have q6 : (a1 : Int) ≤ ((l0.length : Int) : Int) := of_decide_eq_true (by first | (with_reducible assumption) | assumption)
    obtain ⟨i06, hi06, _, hsz6, _⟩ := info_parts info5
    have hroom6 : l0.length ≤ c0 := (Kd.V_reads' HO0.out).2.1
    have hC6 : Kd.F (Kd.int .u8) _ _ A0 l0.length l0 := (Kd.V_at (base := w.heap.size) HO0.out).2.2
    have hcut6 := cut_to (P := Try.prog) 43 5 .i64 Try.underlying43 hi06 A0 l0.length c0 a1 (of_decide_eq_true (by first | (with_reducible assumption) | assumption)) q6 hroom6
    have hr6 := Kd.F_take (m := (a1 : Int).toNat) hC6 (by omega)
    have hy6 : y144.length = (a1 : Int).toNat := (by rw [Ny144.out, List.length_take]; omega)
    rw [← Ny144.out] at hr6
    rw [← hy6] at hcut6
    have HO148 := Aside0.mk (show Kd.V (Kd.int .u8) 5 _ w.heap.size _ (.slice A0 y144.length c0) y144 from Kd.V_mk (by omega) hr6)
    have HC148 := Aside0.mk (show y144.length ≤ c0 from by omega)
    clear hr6 hC6 hroom6 hi06 hsz6
    have KY6 := Aside0.mk hy6
    clear hy6
    replace q6 := eq_true q6
    go_enter Try.func25, Try.ntmps25
    go_wp2
    go_ret
    exact ⟨_, by first | rfl | (simp [errW_none, errW_some] <;> rfl) | (simp [*, errW_none, errW_some] <;> rfl), by (with_reducible repeat (first | apply Kd.V_alloc | apply Kd.V_drewN | apply Kd.V_drew)); exact HO148.out, by repeat (first | (with_reducible first | exact HB.out | apply below_alloc | apply pw_below_drewN | apply below_drew1) | exact HB.out)⟩
   ·rw [if_neg c5] at H
    exact absurd H (by simp)
  ·rw [if_neg c4] at H
   exact absurd H (by simp)
 ·rw [if_neg c3] at H
  have c3b0 : decide (a1 < (l0.length : Int)) = false := decide_eq_false c3
  clear c3
  obtain rfl := Option.some.inj H
  go_enter Try.func25, Try.ntmps25
  go_wp2
  go_ret
  exact ⟨_, by first | rfl | (simp [errW_none, errW_some] <;> rfl) | (simp [*, errW_none, errW_some] <;> rfl), by (with_reducible repeat (first | apply Kd.V_alloc | apply Kd.V_drewN | apply Kd.V_drew)); exact HO0.out, by repeat (first | (with_reducible first | exact HB.out | apply below_alloc | apply pw_below_drewN | apply below_drew1) | exact HB.out)⟩

/-! ### recensionlaw25_tells: function 26: its contract stands in begun's text -/

/-! ### recensionlaw25_StackAny: function 4 -/
theorem sloop_len {k : Nat} {n : Int} (d : Nat) : ∀ {x : Int} {l : List Int} {bad : Bool} {U R : List (List S56)} {z : List (List S56) × List (List S56) × Bool}, sloop k n d x l bad U R = some z → (∀ y ∈ U ++ R, y.length ≤ 8) → z.1.length + z.2.1.length ≤ U.length + R.length + d ∧ ∀ y ∈ z.1 ++ z.2.1, y.length ≤ 8 := by
 induction d with
 | zero => intro x l bad U R z h hy; simp only [sloop] at h; obtain rfl := Option.some.inj h; exact ⟨by simp, hy⟩
 | succ d ih =>
  intro x l bad U R z h hy
  simp only [sloop] at h
  by_cases hb : bad = true
  ·rw [if_pos hb] at h
   obtain rfl := Option.some.inj h
   exact ⟨by show U.length + R.length ≤ _; omega, hy⟩
  ·rw [if_neg hb] at h
   obtain ⟨y, g1, h⟩ := Option.bind_eq_some_iff.1 h
   have h8 := rstep_len g1
   by_cases hx : x < n
   ·rw [if_pos hx] at h
    have := ih h (by intro q hq; simp only [List.mem_append, List.mem_singleton] at hq; rcases hq with (hq | rfl) | hq; exact hy q (List.mem_append_left _ hq); exact h8; exact hy q (List.mem_append_right _ hq))
    rw [List.length_append, List.length_singleton] at this
    exact ⟨by omega, this.2⟩
   ·rw [if_neg hx] at h
    have := ih h (by intro q hq; simp only [List.mem_append, List.mem_singleton] at hq; rcases hq with hq | hq | rfl; exact hy q (List.mem_append_left _ hq); exact hy q (List.mem_append_right _ hq); exact h8)
    rw [List.length_append, List.length_singleton] at this
    exact ⟨by omega, this.2⟩
theorem stack_dec_some {k : Nat} {l : List Int} {U R : List (List S56)} (h : stack_dec k l = some (some (U, R))) : U.length + R.length ≤ 4 ∧ (∀ y ∈ U ++ R, y.length ≤ 8) ∧ ∃ bs, stack_enc k U R = some bs ∧ (strOfNums bs).toList = (strOfNums l).toList := by
 unfold stack_dec at h
 obtain ⟨⟨n, l1, b1⟩, f1, h⟩ := Option.bind_eq_some_iff.1 h
 obtain ⟨⟨m, l2, b2⟩, f2, h⟩ := Option.bind_eq_some_iff.1 h
 obtain ⟨⟨Uf, Rf, bf⟩, f3, h⟩ := Option.bind_eq_some_iff.1 h
 simp only at f2 f3 h
 by_cases hb : bf = true
 ·rw [if_pos hb] at h; cases h
 ·rw [if_neg hb] at h
  by_cases h4 : n + m > 4
  ·rw [if_pos h4] at h; cases h
  ·rw [if_neg h4] at h
   obtain ⟨bs, g1, h⟩ := Option.bind_eq_some_iff.1 h
   obtain ⟨q, g2, h⟩ := Option.bind_eq_some_iff.1 h
   by_cases hq : q = true
   ·rw [if_pos hq] at h
    obtain ⟨rfl, rfl⟩ : Uf = U ∧ Rf = R := by simpa using h
    have hl := sloop_len _ f3 (by simp)
    refine ⟨by have := hl.1; simp at this; omega, hl.2, bs, g1, ?_⟩
    subst hq
    unfold bytes_Equal.f at g2
    simpa using Option.some.inj g2
   ·rw [if_neg hq] at h; cases h
theorem bytes_of_list {a b : ByteArray} (h : a.toList = b.toList) : a = b := by
 rw [ByteArray.toList_eq, ByteArray.toList_eq] at h
 cases a; cases b
 simp only at h
 exact congrArg ByteArray.mk (Array.toList_inj.1 h)
theorem cv_43 {w : World} {A : Option Addr} {c : Nat} {l : List Int} (h : Kd.C (Kd.int .u8) w A l.length l) : (convert 43 9 (.slice A l.length c)).run Try.prog w = .ok (.string (strOfNums l)) w := Kd.C_string (P := Try.prog) (A := A) (c := c) Try.underlying43 Try.underlying5 Try.underlying9 h
set_option maxHeartbeats 1000000 in
set_option maxRecDepth 100000 in
theorem tells_none (k : Nat) (A : Option Addr) (c : Nat) (l : List Int) (w : World) (hr : Kd.C (Kd.int .u8) w A l.length l) (hc : l.length ≤ c) (hf : stack_dec k l = some none) :
  Calls Try.prog 26 #[.slice A l.length c] w fun e w' => e = .returned (.bool true) ∧ Below w.heap.size w w' := by
 have HR := Aside0.mk hr
 have HC := Aside0.mk hc
 have HF := Aside0.mk hf
 clear hr hc hf
 go_enter Try.func26, Try.ntmps26
 go_wp2_with fail
 refine (dec_any k A c l w HR.out HC.out _ HF.out).mono ?_
 rintro e w1 ⟨v, ee, rfl, ⟨rfl, rfl⟩, hb⟩
 have B1 := Aside0.mk hb
 clear hb
 go_wp2_with fail
 go_ret
 exact ⟨rfl, B1.out⟩
set_option maxHeartbeats 1000000 in
set_option maxRecDepth 100000 in
theorem tells_some (k : Nat) (A : Option Addr) (c : Nat) (l : List Int) (w : World) (hr : Kd.C (Kd.int .u8) w A l.length l) (hc : l.length ≤ c) (U R : List (List S56)) (hf : stack_dec k l = some (some (U, R))) :
  Calls Try.prog 26 #[.slice A l.length c] w fun e w' => e = .returned (.bool true) ∧ Below w.heap.size w w' := by
 obtain ⟨h4, h8, bs, hbs, hst⟩ := stack_dec_some hf
 have HR := Aside0.mk hr
 have HC := Aside0.mk hc
 have HF := Aside0.mk hf
 have H4 := Aside0.mk h4
 have H8 := Aside0.mk h8
 have HBS := Aside0.mk hbs
 clear hr hc hf h8 hbs
 have HST := Aside0.mk (bytes_of_list hst)
 clear hst
 go_enter Try.func26, Try.ntmps26
 go_wp2_with fail
 refine (dec_any k A c l w HR.out HC.out _ HF.out).mono ?_
 rintro e w1 ⟨v, ee, rfl, ⟨g, rfl, rfl, hs⟩, hb⟩
 have S1 := Aside0.mk hs
 have B1 := Aside0.mk hb
 clear hs hb
 go_wp2_with fail
 refine (len_yes _ _ g _ _ w1 S1.out).mono ?_
 rintro e w2 ⟨rfl, ⟨n2, hn2⟩⟩
 have S2 := Aside0.mk (hn2 ▸ S1.out.drewN n2 : St 63 35 _ _ w2 g U R)
 have B2 := Aside0.mk (hn2 ▸ pw_below_drewN B1.out n2 : Below w.heap.size w w2)
 clear S1 B1 hn2
 have e1 : IntKind.i64.wrap ((U.length : Int) + (R.length : Int)) = (U.length : Int) + (R.length : Int) := IntWalk.i64_in _ (by omega)
 have l4 : (U.length : Int) + (R.length : Int) ≤ 4 := by omega
 go_wp2_with fail
 have S3 := Aside0.mk S2.out.drew
 have B3 := Aside0.mk (below_drew1 B2.out)
 clear S2 B2
 refine start_ (n := 13) (S := fun w' => (convert 43 9 (.slice A l.length c)).run Try.prog w' = .ok (.string (strOfNums l)) w') (ds := []) #[false, false, false, false, false, false, false, false, false, false, false, false, false] (by kernel_rfl) rfl rfl ((cv_43 (Kd.C_below HR.out B3.out))) (fun hHeld => ?_)
 generalize w2.drew = w3 at S3 B3 hHeld ⊢
 refine pure_ (i := 0) (N := some 25) (v := ?_) (a' := ?_) #[true, false, false, false, false, false, false, false, false, false, false, false, false] rfl rfl (by kernel_rfl) (fun _ _ _ h => h) (Or.inl ⟨by rfl, ?_⟩) ?_ ?_
 rotate_left
 ·intro w'
  go_simp
  with_reducible rfl
 rotate_left
 ·simp only [Act.put, List.setIfInBounds_toArray, List.set_cons_zero, List.set_cons_succ, i64_w, i32_w]
  rfl
 refine pure_ (i := 3) (N := some 28) (v := ?_) (a' := ?_) #[true, false, false, true, false, false, false, false, false, false, false, false, false] rfl rfl (by kernel_rfl) (fun _ _ _ h => h) (Or.inl ⟨by rfl, ?_⟩) ?_ ?_
 rotate_left
 ·intro w'
  go_simp
  with_reducible rfl
 rotate_left
 ·simp only [Act.put, List.setIfInBounds_toArray, List.set_cons_zero, List.set_cons_succ, i64_w, i32_w]
  rfl
 refine take_ (i := 4) (N := some 29) (v := ?_) (a' := ?_) #[true, false, false, true, true, false, false, false, false, false, false, false, false] rfl rfl (by kernel_rfl) (fun _ _ _ h => h) (Or.inl ⟨by rfl, ?_⟩) hHeld ?_ ?_
 rotate_left
 ·intro w' s0
  go_simp
  with_reducible rfl
 rotate_left
 ·simp only [Act.put, List.setIfInBounds_toArray, List.set_cons_zero, List.set_cons_succ, i64_w, i32_w]
  rfl
 refine one_ (i := 1) (N := some 26) #[true, true, false, true, true, false, false, false, false, false, false, false, false] rfl rfl (by kernel_rfl) (by decide) (fun K hK => ?_)
 refine goes_ Try.func21 (by kernel_rfl) rfl #[.pointer (some ⟨g, 0, none⟩)] (by rfl) rfl rfl (by simp only [List.map_toArray, List.map_cons, List.map_nil]; rfl) ?_
 with_reducible refine (enc_yes k _ _ g U R bs _ S3.out (by have := H4.out; omega) (by have := H4.out; omega) (fun x hx => by have := H8.out x hx; omega) HBS.out).mono ?_
 rintro e w4 ⟨v4, rfl, ho4, hb⟩
 obtain ⟨Ae, ce, rfl⟩ := Kd.R_slice ho4
 have hce := cv_43 (c := ce) (Kd.R_reads' ho4).2.2
 rw [HST.out] at hce
 have B4 := Aside0.mk (B3.out.trans (hb.mono B3.out.size))
 clear ho4 hb B3 S3
 refine ⟨_, rfl, ?_⟩
 refine hK.out _ _ ((cv_43 (Kd.C_below HR.out B4.out))) (fun hHeld => ?_)
 clear hK K
 refine norm_ (a' := ?_) ?_ ?_
 rotate_left
 ·show Act.put _ (some 26) _ = _
  simp only [Act.put, List.setIfInBounds_toArray, List.set_cons_zero, List.set_cons_succ, i64_w, i32_w]
  rfl
 refine one_ (i := 2) (N := some 27) #[true, true, true, true, true, false, false, false, false, false, false, false, false] rfl rfl (by kernel_rfl) (by decide) (fun K hK => ?_)
 refine value_ (w1 := ?_) (v := ?_) (by rfl) rfl ?_ ?_
 rotate_left 2
 ·go_simp
  constructor
  ·rfl
  ·rfl
 clear hce
 refine hK.out _ _ ((cv_43 (Kd.C_below HR.out B4.out))) (fun hHeld => ?_)
 clear hK K
 refine norm_ (a' := ?_) ?_ ?_
 rotate_left
 ·show Act.put _ (some 27) _ = _
  simp only [Act.put, List.setIfInBounds_toArray, List.set_cons_zero, List.set_cons_succ, i64_w, i32_w]
  rfl
 refine pure_ (i := 5) (N := some 30) (v := ?_) (a' := ?_) #[true, true, true, true, true, true, false, false, false, false, false, false, false] rfl rfl (by kernel_rfl) (fun _ _ _ h => h) (Or.inl ⟨by rfl, ?_⟩) ?_ ?_
 rotate_left
 ·intro w'
  go_simp
  with_reducible rfl
 rotate_left
 ·simp only [Act.put, List.setIfInBounds_toArray, List.set_cons_zero, List.set_cons_succ, i64_w, i32_w]
  rfl
 refine pure_ (i := 6) (N := some 31) (v := ?_) (a' := ?_) #[true, true, true, true, true, true, true, false, false, false, false, false, false] rfl rfl (by kernel_rfl) (fun _ _ _ h => h) (Or.inl ⟨by rfl, ?_⟩) ?_ ?_
 rotate_left
 ·intro w'
  go_simp
  with_reducible rfl
 rotate_left
 ·simp only [Act.put, List.setIfInBounds_toArray, List.set_cons_zero, List.set_cons_succ, i64_w, i32_w]
  rfl
 refine pure_ (i := 7) (N := some 32) (v := ?_) (a' := ?_) #[true, true, true, true, true, true, true, true, false, false, false, false, false] rfl rfl (by kernel_rfl) (fun _ _ _ h => h) (Or.inl ⟨by rfl, ?_⟩) ?_ ?_
 rotate_left
 ·intro w'
  go_simp
  with_reducible rfl
 rotate_left
 ·simp only [Act.put, List.setIfInBounds_toArray, List.set_cons_zero, List.set_cons_succ, i64_w, i32_w]
  rfl
 refine pure_ (i := 8) (N := some 33) (v := ?_) (a' := ?_) #[true, true, true, true, true, true, true, true, true, false, false, false, false] rfl rfl (by kernel_rfl) (fun _ _ _ h => h) (Or.inl ⟨by rfl, ?_⟩) ?_ ?_
 rotate_left
 ·intro w'
  go_simp
  with_reducible rfl
 rotate_left
 ·simp only [Act.put, List.setIfInBounds_toArray, List.set_cons_zero, List.set_cons_succ, i64_w, i32_w]
  rfl
 refine pure_ (i := 9) (N := some 34) (v := ?_) (a' := ?_) #[true, true, true, true, true, true, true, true, true, true, false, false, false] rfl rfl (by kernel_rfl) (fun _ _ _ h => h) (Or.inl ⟨by rfl, ?_⟩) ?_ ?_
 rotate_left
 ·intro w'
  go_simp
  with_reducible rfl
 rotate_left
 ·simp only [Act.put, List.setIfInBounds_toArray, List.set_cons_zero, List.set_cons_succ, i64_w, i32_w]
  rfl
 refine pure_ (i := 10) (N := some 35) (v := ?_) (a' := ?_) #[true, true, true, true, true, true, true, true, true, true, true, false, false] rfl rfl (by kernel_rfl) (fun _ _ _ h => h) (Or.inl ⟨by rfl, ?_⟩) ?_ ?_
 rotate_left
 ·intro w'
  go_simp
  with_reducible rfl
 rotate_left
 ·simp only [Act.put, List.setIfInBounds_toArray, List.set_cons_zero, List.set_cons_succ, i64_w, i32_w]
  rfl
 refine pure_ (i := 11) (N := some 36) (v := ?_) (a' := ?_) #[true, true, true, true, true, true, true, true, true, true, true, true, false] rfl rfl (by kernel_rfl) (fun _ _ _ h => h) (Or.inl ⟨by rfl, ?_⟩) ?_ ?_
 rotate_left
 ·intro w'
  go_simp
  with_reducible rfl
 rotate_left
 ·simp only [Act.put, List.setIfInBounds_toArray, List.set_cons_zero, List.set_cons_succ, i64_w, i32_w]
  rfl
 refine pure_ (i := 12) (N := some 2) (v := ?_) (a' := ?_) #[true, true, true, true, true, true, true, true, true, true, true, true, true] rfl rfl (by kernel_rfl) (fun _ _ _ h => h) (Or.inl ⟨by rfl, ?_⟩) ?_ ?_
 rotate_left
 ·intro w'
  go_simp
  with_reducible rfl
 rotate_left
 ·simp only [Act.put, List.setIfInBounds_toArray, List.set_cons_zero, List.set_cons_succ, i64_w, i32_w]
  rfl
 refine done_ (by kernel_rfl) ?_
 go_wp2_with fail
 go_ret
 exact ⟨rfl, B4.out⟩
theorem tells_any (k : Nat) (A : Option Addr) (c : Nat) (l : List Int) (w : World) (hr : Kd.C (Kd.int .u8) w A l.length l) (hc : l.length ≤ c) (r : Option (List (List S56) × List (List S56))) (hf : stack_dec k l = some r) :
  Calls Try.prog 26 #[.slice A l.length c] w fun e w' => e = .returned (.bool true) ∧ Below w.heap.size w w' := by
 match r, hf with
 | none, hf => exact tells_none k A c l w hr hc hf
 | some (U, R), hf => exact tells_some k A c l w hr hc U R hf
theorem push_any (k : Nat) (P : Nat → Prop) (base g : Nat) (A : Option Addr) (c : Nat) (x : List S56) (U : List (List S56)) (W : World) (h : St 63 35 P base W g [] []) (hbase : base ≤ W.heap.size) (hx : Kd.C k56 W A x.length x) (hc : x.length ≤ c) (hM : (stack_May.f k x = some true ∧ U = [x]) ∨ (stack_May.f k x = some false ∧ U = [])) (hxl : x.length ≤ 1000) :
  Calls Try.prog 14 #[.pointer (some ⟨g, 0, none⟩), .slice A x.length c] W fun e W' => (∃ ok, e = .returned (.bool ok)) ∧ (∃ P', St 63 35 P' base W' g U []) ∧ Below base W W' := by
 rcases hM with ⟨hM, rfl⟩ | ⟨hM, rfl⟩
 ·refine (push_yes k P base g [] [] A c x W h hbase hx hc hM hxl (by simp)).mono ?_
  rintro e w1 ⟨rfl, hs, hb, _⟩
  exact ⟨⟨_, rfl⟩, ⟨_, hs⟩, hb⟩
 ·refine (push_no k g A c x W hx hc hM).mono ?_
  rintro e w1 ⟨rfl, hb⟩
  exact ⟨⟨_, rfl⟩, ⟨_, h.below hb⟩, hb.mono hbase⟩
def qt : S56 := chg ⟨#[113]⟩ ⟨#[]⟩ ⟨#[116]⟩
def AnyTail (k : Nat) (cs : List Int) (at_ y j : Int) (r1 r2 r3 r4 : Option (List (List S56) × List (List S56))) : Prop := Int.tmod at_ (cs.length : Int) = j ∧ 0 ≤ j ∧ j < cs.length ∧ stack_dec k cs = some r1 ∧ stack_dec k (cs.set j.toNat (Go.bits .xor .u8 (rd cs j) y)) = some r2 ∧ stack_dec k (cs.take j.toNat) = some r3 ∧ stack_dec k (cs.set j.toNat (Go.bits .xor .u8 (rd cs j) y) ++ [y]) = some r4
def AnyOK (k : Nat) (b : List Int) (x : List S56) (at_ y : Int) : Prop :=
 BegunOK k ∧ ∃ b1 x1, recensionlaw1_Short.f b 60 = some b1 ∧ recensionlaw25_Cut.f k x = some x1 ∧ (∃ r0, stack_dec k b1 = some r0) ∧ x1.length ≤ 1000 ∧ stack_May.f k [qt] = some true ∧ ∃ U cs, ((stack_May.f k x1 = some true ∧ U = [x1]) ∨ (stack_May.f k x1 = some false ∧ U = [])) ∧ stack_enc k U [[qt]] = some cs ∧ 0 < cs.length ∧ cs.length ≤ 1000000 ∧ (0 ≤ at_ → ∃ j r1 r2 r3 r4, AnyTail k cs at_ y j r1 r2 r3 r4)
set_option maxHeartbeats 4000000 in
set_option maxRecDepth 100000 in
theorem any_walk (k : Nat) (A0 : Option Addr) (c0 : Nat) (b : List Int) (A1 : Option Addr) (c1 : Nat) (x : List S56) (at_ y : Int) (w : World) (hr0 : Kd.C (Kd.int .u8) w A0 b.length b) (hc0 : b.length ≤ c0) (hr1 : Kd.C k56 w A1 x.length x) (hc1 : x.length ≤ c1) (h : AnyOK k b x at_ y) :
  Calls Try.prog 4 #[.slice A0 b.length c0, .slice A1 x.length c1, .int .i64 at_, .int .u8 y] w fun e w' => e = .returned (.bool true) ∧ Below w.heap.size w w' := by
 obtain ⟨hbeg, b1, x1, hs, hcu, ⟨r0, h0⟩, hx1, hq, U, cs, hU, hE, hcp, hcl, hat⟩ := h
 have hUl : U.length ≤ 1 ∧ ∀ z ∈ U ++ [[qt]], z.length ≤ 1000 := by
  rcases hU with ⟨_, rfl⟩ | ⟨_, rfl⟩ <;> simp [hx1]
 have HR0 := Aside0.mk hr0
 have HC0 := Aside0.mk hc0
 have HR1 := Aside0.mk hr1
 have HC1 := Aside0.mk hc1
 have HBG := Aside0.mk hbeg
 have HSH := Aside0.mk hs
 have HCU := Aside0.mk hcu
 have HT0 := Aside0.mk h0
 have HX1 := Aside0.mk hx1
 have HQ := Aside0.mk hq
 have HU := Aside0.mk hU
 have HUL := Aside0.mk hUl
 have HE := Aside0.mk hE
 have HAT := Aside0.mk hat
 have HB := Aside0.mk (Below.refl w.heap.size w)
 clear hr0 hc0 hr1 hc1 hbeg hs hcu h0 hx1 hq hU hUl hE hat
 go_enter Try.func4, Try.ntmps4
 go_wp2_with fail
 refine (begun_ok HBG.out _).mono ?_
 rintro e w1 ⟨rfl, hb⟩
 have B1 := Aside0.mk hb
 clear hb HB
 go_wp2_with (first | ((with_reducible refine gate_callee (f := 25) rfl ?_); refine goesL_ (some 17) rfl rfl Try.func25 (by kernel_rfl) rfl #[.slice A0 b.length c0, .int .i64 60] rfl (by (try simp only [List.map_toArray, List.map_cons, List.map_nil]); first | done | rfl) ?_; (with_reducible refine (recensionlaw1_Short.calls (fun k_ => k_ < w.heap.size) _ _ b 60 b1 _ ?side1 HSH.out).mono ?_); (case side1 => exact Kd.V_mk HC0.out (Kd.F_below (Kd.C_F (Kd.heap_int .u8) HR0.out) B1.out)); rintro e w2 ⟨v2, rfl, ho0, hb⟩; refine ⟨_, rfl, ?_⟩; have V2 := Aside0.mk (Kd.V_lower (Kd.V_mono (ok' := fun k_ => True) ho0 (fun k_ hk_ => trivial)) B1.out.size); have B2 := Aside0.mk (below_step B1.out hb); clear ho0 hb B1) | ((with_reducible refine gate_callee (f := 11) rfl ?_); refine goesL_ (some 19) rfl rfl Try.func11 (by kernel_rfl) rfl #[.slice A1 x.length c1] rfl (by (try simp only [List.map_toArray, List.map_cons, List.map_nil]); first | done | rfl) ?_; (with_reducible refine (recensionlaw25_Cut.calls k _ _ x x1 _ ?side1 ?side2 HCU.out).mono ?_); (case side1 => exact Kd.C_below HR1.out B2.out); (case side2 => exact HC1.out); rintro e w3 ⟨v3, rfl, ho0, hb⟩; refine ⟨_, rfl, ?_⟩; have V3 := Aside0.mk (Kd.V_elder' V2.out (Kd.R_base ho0) hb); have X3 := Aside0.mk (Kd.R_lower ho0 B2.out.size); have B3 := Aside0.mk (below_step B2.out hb); clear ho0 hb V2 B2; obtain ⟨Ab, cb, eb⟩ := Kd.V_slice V3.out; subst eb; obtain ⟨Ax, cx, ex⟩ := Kd.R_slice X3.out; subst ex))
 refine (tells_any k Ab cb b1 _ (Kd.V_reads' V3.out).2.2 (Kd.V_reads' V3.out).2.1 r0 HT0.out).mono ?_
 rintro e w5 ⟨rfl, hb⟩
 have X5 := Aside0.mk (Kd.R_below X3.out hb)
 have B5 := Aside0.mk (below_step B3.out hb)
 clear hb V3 X3 B3
 go_wp2_with fail
 refine (st_new w.heap.size _ B5.out.size).mono ?_
 rintro e w6 ⟨rfl, hs6, hb⟩
 have S6 := Aside0.mk hs6
 have X6 := Aside0.mk (Kd.R_below X5.out hb)
 have B6 := Aside0.mk (below_step B5.out hb)
 obtain ⟨g, hg⟩ : ∃ g, w5.heap.size = g := ⟨_, rfl⟩
 rw [hg] at S6 ⊢
 clear hs6 hb X5 B5 hg
 go_wp2_with fail
 refine (push_any k _ w.heap.size g Ax cx x1 U w6 S6.out B6.out.size (Kd.R_reads' X6.out).2.2 (Kd.R_reads' X6.out).2.1 HU.out HX1.out).mono ?_
 rintro e w7 ⟨⟨ok7, rfl⟩, ⟨P7, hs7⟩, hb⟩
 have S7 := Aside0.mk hs7
 have B7 := Aside0.mk (B6.out.trans hb)
 clear hs7 hb X6 S6 B6
 go_wp2_with fail
 refine (stepc _ _ _ _).mono ?_
 rintro e w8 ⟨A8, c8, rfl, ho, hb⟩
 have S8 := Aside0.mk (S7.out.below hb)
 have B8 := Aside0.mk (below_step B7.out hb)
 have X8 := Aside0.mk (show Kd.R k56 56 w8 _ (fun _ => True) (.slice A8 1 c8) [qt] from ho)
 clear ho hb S7 B7
 go_wp2_with fail
 refine (push_yes k _ w.heap.size g U [] A8 c8 [qt] w8 S8.out B8.out.size (Kd.R_reads' X8.out).2.2 (Kd.R_reads' X8.out).2.1 HQ.out (by simp) (by have := HUL.out.1; omega)).mono ?_
 rintro e w9 ⟨rfl, hs, hb, _⟩
 rw [show U.length + 1 - 4 = 0 by have := HUL.out.1; omega, List.drop_zero] at hs
 have S9 := Aside0.mk hs
 have B9 := Aside0.mk (B8.out.trans hb)
 clear hs hb S8 B8 X8
 go_wp2_with fail
 refine (undo_yes _ w.heap.size g U [] [qt] w9 S9.out B9.out.size (by have := HUL.out.1; omega) (by simp) (by simp)).mono ?_
 rintro e w10 ⟨v10, rfl, _, hs, hb, _⟩
 have S10 := Aside0.mk hs
 have B10 := Aside0.mk (B9.out.trans hb)
 clear hs hb S9 B9
 go_wp2_with fail
 refine (enc_yes k _ w.heap.size g U [[qt]] cs w10 S10.out (by have := HUL.out.1; omega) (by simp) HUL.out.2 HE.out).mono ?_
 rintro e w11 ⟨v11, rfl, ho, hb⟩
 obtain ⟨Ac, cc, rfl⟩ := Kd.R_slice ho
 have CC := Aside0.mk (Kd.R_reads' ho).2
 have B11 := Aside0.mk (below_step B10.out hb)
 clear ho hb S10 B10
 have d0 : ((cs.length : Int) == 0) = false := beq_eq_false_iff_ne.mpr (by omega)
 have d1 : decide (0 < (cs.length : Int)) = true := decide_eq_true (by omega)
 by_cases hneg : at_ < 0
 ·go_wp2_with fail
  go_ret
  exact ⟨rfl, B11.out⟩
 ·obtain ⟨j, r1, r2, r3, r4, hj, j0, jl, hr1, hr2, hr3, hr4⟩ := HAT.out (by omega)
  have HR1_ := Aside0.mk hr1
  have HR2_ := Aside0.mk hr2
  have HR3_ := Aside0.mk hr3
  have HR4_ := Aside0.mk hr4
  obtain ⟨ds, hds⟩ : ∃ ds, ds = cs.set j.toNat (Go.bits .xor .u8 (rd cs j) y) := ⟨_, rfl⟩
  have HDS := Aside0.mk hds
  have T0 := Aside0.mk (Below.refl w11.heap.size w11)
  clear hr1 hr2 hr3 hr4 hds HAT
  go_wp2_with (first | ((with_reducible refine gate_builtin (b := .append) (xs := #[.const (.slice none 0 0), .tmp 44]) rfl ?_); (try (refine gate_guard (by rfl) ?_; dsimp only)); at_builtin; refine Kd.R_append_rows (Kd.int .u8) (w0 := w11) w11.heap.size rfl (.const (.slice none 0 0)) (.tmp 44) 43 5 (.int .u8 0) 1 rfl Try.underlying43 info5 rfl (by decide) (by omega) (.slice none 0 0) ([] : List Int) cs _ _ _ (fun _ => True) (fun _ => False) rfl rfl ?aO ?aR (fun _ _ h => h) (fun _ h => h.elim) ?aF ?aB ?aS ?aL ?_; (case aR => repeat (first | exact CC.out.2 | (with_reducible refine Kd.C_alloc ?_ _) | (with_reducible refine Kd.C_drewN ?_ _) | (with_reducible refine Kd.C_drew ?_))); (case aB => repeat (first | (with_reducible first | exact T0.out | apply below_alloc | apply pw_below_drewN | apply below_drew1) | exact T0.out)); (case aF => exact (fun _ _ => trivial)); (case aO => exact ((Kd.R_nil _ _ _ _ (fun _ => True)))); (case aS => exact (below_size (by repeat (first | (with_reducible first | exact T0.out | apply below_alloc | apply pw_below_drewN | apply below_drew1) | exact T0.out)))); (case aL => simp; omega); intro v12 w12 ho hb hg hat; rw [List.nil_append] at ho; have D12 := Aside0.mk ho; have T12 := Aside0.mk hb; clear ho hb hg hat T0; obtain ⟨gd, cd, ed, gb, gl, cl, HG⟩ := Kd.R_form D12.out hcp; subst ed; have GB := Aside0.mk gb; clear gb gl HG; obtain ⟨ad, ead, hx⟩ := Kd.at_int (Kd.R_reads' D12.out).2.2 j j0 jl; cases ead; (first | simp only [add_plain] at hx | skip); obtain ⟨hy, hz⟩ := Kd.R_celln 0 D12.out j j0 jl; have HP := Kd.R_putg D12.out j (Go.bits .xor .u8 (rd cs j) y); have p1 := eq_true j0; have q1 := eq_true jl) | ((with_reducible refine gate_store (t := 5) (p := 55) rfl ?_); refine store_event (t := 5) (p := 55) (v := ?vo) (w1 := (w12.setCell ⟨gd, j.toNat, none⟩ (.int .u8 (Go.bits .xor .u8 (rd cs j) y)))) ?hg ?ho ?hn ?hr ?_; (case ho => rfl); (case hg => rfl); (case hn => rfl); (case hr => first | (go_simp; done) | (go_simp; rfl)); intro w13 hw; have D13 := Aside0.mk (show Kd.R (Kd.int .u8) 5 w13 w11.heap.size (fun _ => True) (.slice (some ⟨gd, 0, none⟩) cs.length cd) ds from by rw [hw, HDS.out]; exact HP.1); have T13 := Aside0.mk (by rw [hw]; exact below_set T12.out GB.out : Below w11.heap.size w11 w13); clear hw HP D12 T12 hx hy hz))
  refine (tells_any k Ac cc cs w13 (Kd.C_below CC.out.2 T13.out) CC.out.1 r1 HR1_.out).mono ?_
  rintro e w14 ⟨rfl, hb⟩
  have D14 := Aside0.mk (Kd.R_below D13.out hb)
  have T14 := Aside0.mk (below_step T13.out hb)
  clear hb D13 T13
  have hl : ds.length = cs.length := by rw [HDS.out, List.length_set]
  have HL := Aside0.mk hl
  clear hl
  go_wp2_with fail
  have ht := tells_any k (some ⟨gd, 0, none⟩) cd ds w14 (Kd.R_reads' D14.out).2.2 (by rw [HL.out]; exact (Kd.R_reads' D14.out).2.1) r2 (by rw [HDS.out]; exact HR2_.out)
  rw [HL.out] at ht
  refine ht.mono ?_
  clear ht
  rintro e w15 ⟨rfl, hb⟩
  have D15 := Aside0.mk (Kd.R_below D14.out hb)
  have T15 := Aside0.mk (below_step T14.out hb)
  clear hb D14 T14
  obtain ⟨i0, hi0, _, _, _⟩ := info_parts info5
  have hcut := cut_to (P := Try.prog) 43 5 .i64 Try.underlying43 hi0 Ac cs.length cc j j0 (by omega) CC.out.1
  have hy : (cs.take j.toNat).length = j.toNat := by rw [List.length_take]; omega
  obtain ⟨ts, hts⟩ : ∃ ts, ts = cs.take j.toNat := ⟨_, rfl⟩
  have HTS := Aside0.mk hts
  rw [← hts] at hy
  rw [← hy] at hcut
  have KY := Aside0.mk hy
  have qj := eq_true (show j ≤ (cs.length : Int) by omega)
  clear hy hts hi0
  go_wp2_with fail
  refine (tells_any k Ac cc ts w15 (by rw [HTS.out]; exact Kd.C_take (Kd.C_below CC.out.2 T15.out) (by omega)) (by have := KY.out; have := CC.out.1; omega) r3 (by rw [HTS.out]; exact HR3_.out)).mono ?_
  rintro e w16 ⟨rfl, hb⟩
  have D16 := Aside0.mk (Kd.R_below D15.out hb)
  have T16 := Aside0.mk (below_step T15.out hb)
  clear hb D15 T15 hcut
  obtain ⟨es, hes⟩ : ∃ es, es = ds ++ [y] := ⟨_, rfl⟩
  have HES := Aside0.mk hes
  clear hes
  go_wp2_with ((with_reducible refine gate_builtin (b := .append) (xs := #[.tmp 72, .tmp 74]) rfl ?_); (try (refine gate_guard (by rfl) ?_; dsimp only)); at_builtin; refine Kd.R_append (Kd.int .u8) (w0 := w11) w11.heap.size rfl (.tmp 72) (.tmp 74) 43 5 (.int .u8 0) 1 rfl Try.underlying43 info5 rfl (by decide) (by omega) (.slice (some ⟨gd, 0, none⟩) cs.length cd) ds y [.int .u8 y] (fun _ => True) (fun _ => False) rfl rfl ?aP (fun _ hk => hk.elim) ?aF ?aO ?aB ?aS ?aL ?_; (case aP => exact rfl); (case aB => repeat (first | (with_reducible first | exact T16.out | apply below_alloc | apply pw_below_drewN | apply below_drew1) | exact T16.out)); (case aF => exact (fun _ _ => trivial)); (case aO => exact (by (with_reducible repeat (first | apply Kd.R_alloc | apply Kd.R_drewN | apply Kd.R_drew)); exact D16.out)); (case aS => exact (below_size (by repeat (first | (with_reducible first | exact T16.out | apply below_alloc | apply pw_below_drewN | apply below_drew1) | exact T16.out)))); (case aL => have := HL.out; omega); intro v17 w17 ho hb hg hat; rw [← HES.out] at ho; have D17 := Aside0.mk ho; have T17 := Aside0.mk hb; clear ho hb hg hat D16 T16; obtain ⟨Ad, cd2, ed⟩ := Kd.R_slice D17.out; subst ed)
  refine (tells_any k Ad cd2 es w17 (Kd.R_reads' D17.out).2.2 (Kd.R_reads' D17.out).2.1 r4 (by rw [HES.out, HDS.out]; exact HR4_.out)).mono ?_
  rintro e w18 ⟨rfl, hb⟩
  have T18 := Aside0.mk (below_step T17.out hb)
  clear hb D17 T17
  go_wp2_with fail
  go_ret
  exact ⟨rfl, B11.out.trans (T18.out.mono B11.out.size)⟩
noncomputable def recensionlaw25_StackAny.f (k : Nat) (l0 : List Int) (l1 : List (S56)) (a2 : Int) (a3 : Int) : Option Bool := @ite _ (AnyOK k l0 l1 a2 a3) (Classical.propDecidable _) (some true) none
theorem recensionlaw25_StackAny.calls (k : Nat) (A0 : Option Addr) (c0 : Nat) (l0 : List Int) (A1 : Option Addr) (c1 : Nat) (l1 : List (S56)) (a2 : Int) (a3 : Int) (r : Bool) (w : World) (hr0 : Kd.C (Kd.int .u8) w A0 l0.length l0) (hc0 : l0.length ≤ c0) (hr1 : Kd.C k56 w A1 l1.length l1) (hc1 : l1.length ≤ c1) (hrt : Aside0 (r = true)) (h : recensionlaw25_StackAny.f k l0 l1 a2 a3 = some r) :
  Calls Try.prog 4 #[.slice A0 l0.length c0, .slice A1 l1.length c1, .int .i64 a2, .int .u8 a3] w fun e w' => e = .returned (.bool r) ∧ Below w.heap.size w w' := by
 obtain rfl := hrt.out
 by_cases hc : AnyOK k l0 l1 a2 a3
 ·exact any_walk k A0 c0 l0 A1 c1 l1 a2 a3 w hr0 hc0 hr1 hc1 hc
 ·unfold recensionlaw25_StackAny.f at h
  rw [if_neg hc] at h
  cases h

def g56 (x : S56) : Prop := (x.f0.size ≤ 140737488351232) ∧ (True) ∧ (True) ∧ (x.f3.size ≤ 140737488351232) ∧ (x.f4.size ≤ 140737488351232)
theorem o56 : Opens Try.prog 56 k56 g56 := by
 intro H enc w spare held fuel cs x h hw
 obtain ⟨xs, n, _, rfl, hlen, hxl, hf⟩ := DataW.trod_struct Try.underlying56 h
 have hn : cs.length = 5 := hlen.trans (by kernel_rfl)
 obtain ⟨a0, K0, G0⟩ := opens_field Try.underlying56 hw hxl hf (i := 0) (T := 9) (O := 0) (S := 1) rfl rfl rfl (by kernel_rfl) (opens_string Try.underlying9)
 obtain ⟨a1, K1, G1⟩ := opens_field Try.underlying56 hw hxl hf (i := 1) (T := 4) (O := 1) (S := 1) rfl rfl rfl (by kernel_rfl) (opens_bool Try.underlying4)
 obtain ⟨a2, K2, G2⟩ := opens_field Try.underlying56 hw hxl hf (i := 2) (T := 4) (O := 2) (S := 1) rfl rfl rfl (by kernel_rfl) (opens_bool Try.underlying4)
 obtain ⟨a3, K3, G3⟩ := opens_field Try.underlying56 hw hxl hf (i := 3) (T := 9) (O := 3) (S := 1) rfl rfl rfl (by kernel_rfl) (opens_string Try.underlying9)
 obtain ⟨a4, K4, G4⟩ := opens_field Try.underlying56 hw hxl hf (i := 4) (T := 9) (O := 4) (S := 1) rfl rfl rfl (by kernel_rfl) (opens_string Try.underlying9)
 rw [cut_last hn (by rfl)] at K4
 exact ⟨⟨a0, a1, a2, a3, a4⟩, ⟨_, _, cut_first cs 1, K0, ⟨_, _, cut_at cs 1 1 2 rfl, K1, ⟨_, _, cut_at cs 2 1 3 rfl, K2, ⟨_, _, cut_at cs 3 1 4 rfl, K3, K4⟩⟩⟩⟩, G0, G1, G2, G3, G4⟩
/-- THE ONE PURE STATEMENT of recensionlaw25_StackAny: yours. -/
def recensionlaw25_StackAny.Pure : Prop := ∀ (l0 : List Int) (l1 : List (S56)) (a2 : Int) (a3 : Int), (l0.length ≤ maxLen ∧ l0.length * 1 ≤ 140737488351232 ∧ ∀ y_ ∈ l0, (Lit.int .u8 y_).wf = true) → (l1.length ≤ maxLen ∧ l1.length * 56 ≤ 140737488351232 ∧ ∀ y_ ∈ l1, g56 y_) → ((Lit.int .i64 a2).wf = true) → ((Lit.int .u8 a3).wf = true) → ∃ k, recensionlaw25_StackAny.f k l0 l1 a2 a3 = some true
theorem recensionlaw25_StackAny.walk (P : recensionlaw25_StackAny.Pure) (A0 : Option Addr) (c0 : Nat) (l0 : List Int) (A1 : Option Addr) (c1 : Nat) (l1 : List (S56)) (a2 : Int) (a3 : Int) (w : World) (hr0 : Kd.C (Kd.int .u8) w A0 l0.length l0) (hc0 : l0.length ≤ c0) (G0 : l0.length ≤ maxLen ∧ l0.length * 1 ≤ 140737488351232 ∧ ∀ y_ ∈ l0, (Lit.int .u8 y_).wf = true) (hr1 : Kd.C k56 w A1 l1.length l1) (hc1 : l1.length ≤ c1) (G1 : l1.length ≤ maxLen ∧ l1.length * 56 ≤ 140737488351232 ∧ ∀ y_ ∈ l1, g56 y_) (G2 : (Lit.int .i64 a2).wf = true) (G3 : (Lit.int .u8 a3).wf = true) :
  Calls Try.prog 4 #[.slice A0 l0.length c0, .slice A1 l1.length c1, .int .i64 a2, .int .u8 a3] w fun e w' => e = .returned (.bool true) ∧ Below w.heap.size w w' := by
 obtain ⟨k, h⟩ := P l0 l1 a2 a3 G0 G1 G2 G3
 refine (recensionlaw25_StackAny.calls k A0 c0 l0 A1 c1 l1 a2 a3 true w hr0 hc0 hr1 hc1 ⟨rfl⟩ h).mono ?_
 rintro e w' ⟨rfl, hd⟩
 exact ⟨rfl, hd⟩
end Go.Proofs.Ythjbcpakpfdkaaa.PStack
