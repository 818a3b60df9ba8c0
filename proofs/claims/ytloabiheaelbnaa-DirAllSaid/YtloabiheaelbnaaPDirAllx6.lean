-- Written by myprint.py (the prover's own turn of the printer); not trusted: Lean checks it.
import Derived.Test.YtloabiheaelbnaaPDirAllx0
namespace Go.Proofs.Ytloabiheaelbnaa.PDirAll
open Go.RowKit Go.Proofs.YtloabiheaelbnaaW.PrintWords Go.Proofs.YtloabiheaelbnaaW.PrintLast Go.Proofs.YtloabiheaelbnaaW.PrintMore
attribute [local go_sem] str_leq op_leq op_gtr op_geq max2_int min2_int max_two min_two max_three min_three max_four min_four   -- for this text's walks alone
set_option linter.unusedVariables false
set_option linter.unusedSimpArgs false

/-! ### recensionlaw23_may: function 12 -/
mutual
def recensionlaw23_may.l0 : Nat → List (S32) → Int → Option (Bool)
 | 0, _, _ => none
 | k + 1, x0, x3 => if x3 < (x0.length : Int) then (if 0 ≤ x3 then (if (((rd_T32 x0 x3).f0).size : Int) < 1 then (recensionlaw23_may.j1 k x0 x3 true ((rd_T32 x0 x3).f0) ((rd_T32 x0 x3).f1) ((rd_T32 x0 x3).f2.f0) ((rd_T32 x0 x3).f2.f1)) else (if (((rd_T32 x0 x3).f0).size : Int) > 20 then (recensionlaw23_may.j1 k x0 x3 true ((rd_T32 x0 x3).f0) ((rd_T32 x0 x3).f1) ((rd_T32 x0 x3).f2.f0) ((rd_T32 x0 x3).f2.f1)) else (if x3 > 0 then (if 0 ≤ (wrap64 (x3 - 1)) then (if (wrap64 (x3 - 1)) < (x0.length : Int) then (if ((Op.bytesLess (((rd_T32 x0 (wrap64 (x3 - 1))).f0).toList) (((rd_T32 x0 x3).f0).toList)) = true) then (if ((rd_T32 x0 x3).f1) < 0 then (recensionlaw23_may.j1 k x0 x3 true ((rd_T32 x0 x3).f0) ((rd_T32 x0 x3).f1) ((rd_T32 x0 x3).f2.f0) ((rd_T32 x0 x3).f2.f1)) else (if ((rd_T32 x0 x3).f1) > 65536 then (recensionlaw23_may.j1 k x0 x3 true ((rd_T32 x0 x3).f0) ((rd_T32 x0 x3).f1) ((rd_T32 x0 x3).f2.f0) ((rd_T32 x0 x3).f2.f1)) else (recensionlaw23_may.j1 k x0 x3 (((rd_T32 x0 x3).f2.f1) != (wrap64 (Int.tdiv (wrap64 (((rd_T32 x0 x3).f1) + 63)) 64))) ((rd_T32 x0 x3).f0) ((rd_T32 x0 x3).f1) ((rd_T32 x0 x3).f2.f0) ((rd_T32 x0 x3).f2.f1)))) else (recensionlaw23_may.j1 k x0 x3 true ((rd_T32 x0 x3).f0) ((rd_T32 x0 x3).f1) ((rd_T32 x0 x3).f2.f0) ((rd_T32 x0 x3).f2.f1))) else (none)) else (none)) else (if ((rd_T32 x0 x3).f1) < 0 then (recensionlaw23_may.j1 k x0 x3 true ((rd_T32 x0 x3).f0) ((rd_T32 x0 x3).f1) ((rd_T32 x0 x3).f2.f0) ((rd_T32 x0 x3).f2.f1)) else (if ((rd_T32 x0 x3).f1) > 65536 then (recensionlaw23_may.j1 k x0 x3 true ((rd_T32 x0 x3).f0) ((rd_T32 x0 x3).f1) ((rd_T32 x0 x3).f2.f0) ((rd_T32 x0 x3).f2.f1)) else (recensionlaw23_may.j1 k x0 x3 (((rd_T32 x0 x3).f2.f1) != (wrap64 (Int.tdiv (wrap64 (((rd_T32 x0 x3).f1) + 63)) 64))) ((rd_T32 x0 x3).f0) ((rd_T32 x0 x3).f1) ((rd_T32 x0 x3).f2.f0) ((rd_T32 x0 x3).f2.f1))))))) else (none)) else (some (decide ((x0.length : Int) ≤ 32)))
def recensionlaw23_may.j1 : Nat → List (S32) → Int → Bool → ByteArray → Int → Int → Int → Option (Bool)
 | 0, _, _, _, _, _, _, _ => none
 | k + 1, x0, x3, x59, x162000, x162001, x162002, x162003 => if x59 = true then (some false) else (if x162002 < 0 then (some false) else (if x162002 > 2048 then (some false) else (if x162003 = 0 then (if x162002 = 0 then (recensionlaw23_may.l0 k x0 (wrap64 (x3 + 1))) else (some false)) else (recensionlaw23_may.l0 k x0 (wrap64 (x3 + 1))))))
end
def recensionlaw23_may.f (k : Nat) (l0 : List (S32)) : Option (Bool) := recensionlaw23_may.l0 k l0 0
theorem recensionlaw23_may.mono_l : ∀ k, (∀ y0 y1, LeO (recensionlaw23_may.l0 k y0 y1) (recensionlaw23_may.l0 (k + 1) y0 y1)) ∧ (∀ y0 y1 y2 y3 y4 y5 y6, LeO (recensionlaw23_may.j1 k y0 y1 y2 y3 y4 y5 y6) (recensionlaw23_may.j1 (k + 1) y0 y1 y2 y3 y4 y5 y6))
 | 0 => ⟨fun _ _ r h => by simp [recensionlaw23_may.l0] at h, fun _ _ _ _ _ _ _ r h => by simp [recensionlaw23_may.j1] at h⟩
 | k + 1 => by
  obtain ⟨ih0, ih1⟩ := recensionlaw23_may.mono_l k
  refine ⟨?_, ?_⟩
  ·intro y0 y1
   unfold recensionlaw23_may.l0
   repeat' first
   | (with_reducible exact ih0 _ _)
   | (with_reducible exact ih1 _ _ _ _ _ _ _)
   | (with_reducible exact LeO.refl _)
   | (with_reducible exact LeO.none _)
   | (with_reducible refine LeO.ite ?_ ?_)
   | (with_reducible refine LeO.bind ?_ (fun _ => ?_))
   | exact ih0 _ _
   | exact ih1 _ _ _ _ _ _ _
   | exact LeO.none _
   | refine LeO.ite ?_ ?_
   | refine LeO.bind ?_ (fun _ => ?_)
  ·intro y0 y1 y2 y3 y4 y5 y6
   unfold recensionlaw23_may.j1
   repeat' first
   | (with_reducible exact ih0 _ _)
   | (with_reducible exact ih1 _ _ _ _ _ _ _)
   | (with_reducible exact LeO.refl _)
   | (with_reducible exact LeO.none _)
   | (with_reducible refine LeO.ite ?_ ?_)
   | (with_reducible refine LeO.bind ?_ (fun _ => ?_))
   | exact ih0 _ _
   | exact ih1 _ _ _ _ _ _ _
   | exact LeO.none _
   | refine LeO.ite ?_ ?_
   | refine LeO.bind ?_ (fun _ => ?_)
theorem recensionlaw23_may.mono : ∀ a0 k, LeO (recensionlaw23_may.f k a0) (recensionlaw23_may.f (k + 1) a0) := by
 intro a0 k
 obtain ⟨ih0, ih1⟩ := recensionlaw23_may.mono_l k
 unfold recensionlaw23_may.f
 repeat' first
   | (with_reducible exact ih0 _ _)
   | (with_reducible exact ih1 _ _ _ _ _ _ _)
   | (with_reducible exact LeO.refl _)
   | (with_reducible exact LeO.none _)
   | (with_reducible refine LeO.ite ?_ ?_)
   | (with_reducible refine LeO.bind ?_ (fun _ => ?_))
   | exact ih0 _ _
   | exact ih1 _ _ _ _ _ _ _
   | exact LeO.none _
   | refine LeO.ite ?_ ?_
   | refine LeO.bind ?_ (fun _ => ?_)
set_option maxHeartbeats 8000000 in
set_option maxRecDepth 100000 in
theorem recensionlaw23_may.calls (k : Nat) (A0 : Option Addr) (c0 : Nat) (l0 : List (S32)) (r : Bool) (w : World) (hr0 : Kd.C k32 w A0 l0.length l0) (hc0 : l0.length ≤ c0) (h : recensionlaw23_may.f k l0 = some r) :
  Calls Try.prog 12 #[.slice A0 l0.length c0] w fun e w' => e = .returned (.bool r) ∧ Below w.heap.size w w' := by
 have hu32 := Try.underlying32
 have HR0 := Aside0.mk hr0
 have HC0 := Aside0.mk hc0
 clear hr0 hc0
 have HB := Aside0.mk (Below.refl w.heap.size w)
 have H : (recensionlaw23_may.l0 k l0 0) = some r := h
 clear h
 have H' := Aside0.mk H
 clear H
 go_enter Try.func12, Try.ntmps12
 go_wp2
 repeat (go_quiet (fail); try go_wp2)
 go_loopg [3] k (fun kq v3 w' => ∃ (x3_1 : Int), v3 = .int .i64 x3_1 ∧ Aside0 (recensionlaw23_may.l0 kq l0 x3_1 = some r) ∧ Aside0 (kq ≤ k) ∧ Aside0 (Below w.heap.size w w'))
 case atStart => exact ⟨(0), (by first | rfl | (simp; done) | (simp [*]; done)), H', ⟨Nat.le_refl _⟩, ⟨by repeat (first | (with_reducible first | exact HB.out | apply below_alloc | apply pw_below_drewN | apply below_drew1) | exact HB.out)⟩⟩
 case round =>
  clear H'
  try clear c1
  obtain ⟨x3_1, rfl, HA, HK1, HB⟩ := hrel
  cases gk with
  | zero => exact absurd HA.out (by simp [recensionlaw23_may.l0])
  | succ k1 =>
   have H := HA.out
   clear HA
   simp only [recensionlaw23_may.l0] at H
   by_cases c2 : x3_1 < (l0.length : Int)
   ·rw [if_pos c2] at H
    have c2b0 : decide (x3_1 < (l0.length : Int)) = true := decide_eq_true c2
    clear c2
    by_cases c3 : 0 ≤ x3_1
    ·rw [if_pos c3] at H
     have c3b0 : decide (0 ≤ x3_1) = true := decide_eq_true c3
     clear c3
     have HC4 := Aside0.mk H
     clear H
     have p160 : 0 ≤ (x3_1 : Int) := of_decide_eq_true (by first | (with_reducible assumption) | assumption)
     have q160 : x3_1 < (l0.length : Int) := of_decide_eq_true (by first | (with_reducible assumption) | assumption)
     obtain ⟨ad160, e160, hx160_0, hx160_1, hx160_2, hx160_3⟩ := at_T32 HR0.out x3_1 p160 q160
     cases e160
     replace hx160_0 := (HB.out.cell (World.block_lt_of_cell? w _ hx160_0)).trans hx160_0
     replace hx160_1 := (HB.out.cell (World.block_lt_of_cell? w _ hx160_1)).trans hx160_1
     replace hx160_2 := (HB.out.cell (World.block_lt_of_cell? w _ hx160_2)).trans hx160_2
     replace hx160_3 := (HB.out.cell (World.block_lt_of_cell? w _ hx160_3)).trans hx160_3
     replace p160 := eq_true p160
     replace q160 := eq_true q160
     go_upto_region 5 with (first | ((with_reducible refine gate_dst (N := 4) rfl ?_); (try (refine gate_guard (by rfl) ?_; dsimp only)); refine box_event ?hg (N := 4) ?hd (cs := #[.string (⟨#[]⟩ : ByteArray), .int .i64 0, .int .i64 0, .int .i64 0]) (t := 32) ?hr ?_; (case hd => rfl); (case hg => rfl); (case hr => first | (go_simp; done) | (go_simp; rfl)); intro gb161 hg w5 hbox hb; have n0_ := Aside0.mk (below_step (by repeat (first | (with_reducible first | exact HB.out | apply below_alloc | apply pw_below_drewN | apply below_drew1) | exact HB.out)) hb); have n1_ := Aside0.mk (hbox); have n2_ := Aside0.mk ((by rw [hg]; exact (below_size (by repeat (first | (with_reducible first | exact HB.out | apply below_alloc | apply pw_below_drewN | apply below_drew1) | exact HB.out))) : w.heap.size ≤ gb161)); have n3_ := Aside0.mk ((by rw [hg]; exact (below_size (by repeat (first | (with_reducible first | exact HB.out | apply below_alloc | apply pw_below_drewN | apply below_drew1) | exact HB.out))) : w.heap.size ≤ gb161)); clear HB; have HB := n0_; have BK161 := n1_; have GW161 := n2_; have GE161 := n3_; clear n0_ n1_ n2_ n3_; clear hb hbox hg; have hcz6_0 : w5.cell? ⟨gb161, 0, none⟩ = some (.string (⟨#[]⟩ : ByteArray)) := (blk_cell BK161.out 0).trans rfl; have hcz6_1 : w5.cell? ⟨gb161, 1, none⟩ = some (.int .i64 0) := (blk_cell BK161.out 1).trans rfl; have hcz6_2 : w5.cell? ⟨gb161, 2, none⟩ = some (.int .i64 0) := (blk_cell BK161.out 2).trans rfl; have hcz6_3 : w5.cell? ⟨gb161, 3, none⟩ = some (.int .i64 0) := (blk_cell BK161.out 3).trans rfl; have hfz6_0 := blk_frozen BK161.out 0; have hfz6_1 := blk_frozen BK161.out 1; have hfz6_2 := blk_frozen BK161.out 2; have hfz6_3 := blk_frozen BK161.out 3) | ((with_reducible refine gate_store (t := 32) (p := 4) rfl ?_); (try (rw [drewN_self w5]; generalize hq_ : World.drewN w5 _ = w5; have n0_ := Aside0.mk (blk_at hq_ BK161.out); have n1_ := Aside0.mk (below_at hq_ HB.out); clear hq_ BK161 HB; have BK161 := n0_; have HB := n1_; clear n0_ n1_)); refine store_event (t := 32) (p := 4) (v := ?vo_w7) (w1 := ((((w5.setCell ⟨gb161, 0, none⟩ (.string ((rd_T32 l0 x3_1).f0))).setCell ⟨gb161, 1, none⟩ (.int .i64 ((rd_T32 l0 x3_1).f1))).setCell ⟨gb161, 2, none⟩ (.int .i64 ((rd_T32 l0 x3_1).f2.f0))).setCell ⟨gb161, 3, none⟩ (.int .i64 ((rd_T32 l0 x3_1).f2.f1)))) ?hg ?ho ?hn ?hr ?_; (case ho => rfl); (case hg => rfl); (case hn => rfl); (case hr => first | (go_simp; done) | (go_simp; rfl)); intro w7 hw; have n0_ : Aside0 (w7.heap[gb161]? = some (.cells #[.string ((rd_T32 l0 x3_1).f0), .int .i64 ((rd_T32 l0 x3_1).f1), .int .i64 ((rd_T32 l0 x3_1).f2.f0), .int .i64 ((rd_T32 l0 x3_1).f2.f1)] 32 (0, 0))) := ⟨(by rw [hw]; exact (by (with_reducible repeat (first | refine blk_drewN ?_ _ | refine blk_drew ?_ | refine blk_alloc ?_ _)); refine blk_put (cs := #[.string ((rd_T32 l0 x3_1).f0), .int .i64 ((rd_T32 l0 x3_1).f1), .int .i64 ((rd_T32 l0 x3_1).f2.f0), .int .i64 0]) ?_ 3 _ rfl; (with_reducible repeat (first | refine blk_drewN ?_ _ | refine blk_drew ?_ | refine blk_alloc ?_ _)); refine blk_put (cs := #[.string ((rd_T32 l0 x3_1).f0), .int .i64 ((rd_T32 l0 x3_1).f1), .int .i64 0, .int .i64 0]) ?_ 2 _ rfl; (with_reducible repeat (first | refine blk_drewN ?_ _ | refine blk_drew ?_ | refine blk_alloc ?_ _)); refine blk_put (cs := #[.string ((rd_T32 l0 x3_1).f0), .int .i64 0, .int .i64 0, .int .i64 0]) ?_ 1 _ rfl; (with_reducible repeat (first | refine blk_drewN ?_ _ | refine blk_drew ?_ | refine blk_alloc ?_ _)); refine blk_put (cs := #[.string (⟨#[]⟩ : ByteArray), .int .i64 0, .int .i64 0, .int .i64 0]) ?_ 0 _ rfl; (with_reducible repeat (first | refine blk_drewN ?_ _ | refine blk_drew ?_ | refine blk_alloc ?_ _)); exact BK161.out))⟩; have n1_ : Aside0 (Below w.heap.size w w7) := ⟨(by rw [hw]; exact (by repeat (first | (with_reducible first | exact HB.out | apply below_alloc | apply pw_below_drewN | apply below_drew1 | refine below_set ?_ GE161.out) | exact HB.out)))⟩; clear hw; clear BK161; clear HB; have BK161 := n0_; have HB := n1_; clear n0_ n1_))
     repeat (go_quiet (first | ((with_reducible refine gate_dst (N := 4) rfl ?_); (try (refine gate_guard (by rfl) ?_; dsimp only)); refine box_event ?hg (N := 4) ?hd (cs := #[.string (⟨#[]⟩ : ByteArray), .int .i64 0, .int .i64 0, .int .i64 0]) (t := 32) ?hr ?_; (case hd => rfl); (case hg => rfl); (case hr => first | (go_simp; done) | (go_simp; rfl)); intro gb161 hg w5 hbox hb; have n0_ := Aside0.mk (below_step (by repeat (first | (with_reducible first | exact HB.out | apply below_alloc | apply pw_below_drewN | apply below_drew1) | exact HB.out)) hb); have n1_ := Aside0.mk (hbox); have n2_ := Aside0.mk ((by rw [hg]; exact (below_size (by repeat (first | (with_reducible first | exact HB.out | apply below_alloc | apply pw_below_drewN | apply below_drew1) | exact HB.out))) : w.heap.size ≤ gb161)); have n3_ := Aside0.mk ((by rw [hg]; exact (below_size (by repeat (first | (with_reducible first | exact HB.out | apply below_alloc | apply pw_below_drewN | apply below_drew1) | exact HB.out))) : w.heap.size ≤ gb161)); clear HB; have HB := n0_; have BK161 := n1_; have GW161 := n2_; have GE161 := n3_; clear n0_ n1_ n2_ n3_; clear hb hbox hg; have hcz6_0 : w5.cell? ⟨gb161, 0, none⟩ = some (.string (⟨#[]⟩ : ByteArray)) := (blk_cell BK161.out 0).trans rfl; have hcz6_1 : w5.cell? ⟨gb161, 1, none⟩ = some (.int .i64 0) := (blk_cell BK161.out 1).trans rfl; have hcz6_2 : w5.cell? ⟨gb161, 2, none⟩ = some (.int .i64 0) := (blk_cell BK161.out 2).trans rfl; have hcz6_3 : w5.cell? ⟨gb161, 3, none⟩ = some (.int .i64 0) := (blk_cell BK161.out 3).trans rfl; have hfz6_0 := blk_frozen BK161.out 0; have hfz6_1 := blk_frozen BK161.out 1; have hfz6_2 := blk_frozen BK161.out 2; have hfz6_3 := blk_frozen BK161.out 3) | ((with_reducible refine gate_store (t := 32) (p := 4) rfl ?_); (try (rw [drewN_self w5]; generalize hq_ : World.drewN w5 _ = w5; have n0_ := Aside0.mk (blk_at hq_ BK161.out); have n1_ := Aside0.mk (below_at hq_ HB.out); clear hq_ BK161 HB; have BK161 := n0_; have HB := n1_; clear n0_ n1_)); refine store_event (t := 32) (p := 4) (v := ?vo_w7) (w1 := ((((w5.setCell ⟨gb161, 0, none⟩ (.string ((rd_T32 l0 x3_1).f0))).setCell ⟨gb161, 1, none⟩ (.int .i64 ((rd_T32 l0 x3_1).f1))).setCell ⟨gb161, 2, none⟩ (.int .i64 ((rd_T32 l0 x3_1).f2.f0))).setCell ⟨gb161, 3, none⟩ (.int .i64 ((rd_T32 l0 x3_1).f2.f1)))) ?hg ?ho ?hn ?hr ?_; (case ho => rfl); (case hg => rfl); (case hn => rfl); (case hr => first | (go_simp; done) | (go_simp; rfl)); intro w7 hw; have n0_ : Aside0 (w7.heap[gb161]? = some (.cells #[.string ((rd_T32 l0 x3_1).f0), .int .i64 ((rd_T32 l0 x3_1).f1), .int .i64 ((rd_T32 l0 x3_1).f2.f0), .int .i64 ((rd_T32 l0 x3_1).f2.f1)] 32 (0, 0))) := ⟨(by rw [hw]; exact (by (with_reducible repeat (first | refine blk_drewN ?_ _ | refine blk_drew ?_ | refine blk_alloc ?_ _)); refine blk_put (cs := #[.string ((rd_T32 l0 x3_1).f0), .int .i64 ((rd_T32 l0 x3_1).f1), .int .i64 ((rd_T32 l0 x3_1).f2.f0), .int .i64 0]) ?_ 3 _ rfl; (with_reducible repeat (first | refine blk_drewN ?_ _ | refine blk_drew ?_ | refine blk_alloc ?_ _)); refine blk_put (cs := #[.string ((rd_T32 l0 x3_1).f0), .int .i64 ((rd_T32 l0 x3_1).f1), .int .i64 0, .int .i64 0]) ?_ 2 _ rfl; (with_reducible repeat (first | refine blk_drewN ?_ _ | refine blk_drew ?_ | refine blk_alloc ?_ _)); refine blk_put (cs := #[.string ((rd_T32 l0 x3_1).f0), .int .i64 0, .int .i64 0, .int .i64 0]) ?_ 1 _ rfl; (with_reducible repeat (first | refine blk_drewN ?_ _ | refine blk_drew ?_ | refine blk_alloc ?_ _)); refine blk_put (cs := #[.string (⟨#[]⟩ : ByteArray), .int .i64 0, .int .i64 0, .int .i64 0]) ?_ 0 _ rfl; (with_reducible repeat (first | refine blk_drewN ?_ _ | refine blk_drew ?_ | refine blk_alloc ?_ _)); exact BK161.out))⟩; have n1_ : Aside0 (Below w.heap.size w w7) := ⟨(by rw [hw]; exact (by repeat (first | (with_reducible first | exact HB.out | apply below_alloc | apply pw_below_drewN | apply below_drew1 | refine below_set ?_ GE161.out) | exact HB.out)))⟩; clear hw; clear BK161; clear HB; have BK161 := n0_; have HB := n1_; clear n0_ n1_)); go_upto_region 5 with (first | ((with_reducible refine gate_dst (N := 4) rfl ?_); (try (refine gate_guard (by rfl) ?_; dsimp only)); refine box_event ?hg (N := 4) ?hd (cs := #[.string (⟨#[]⟩ : ByteArray), .int .i64 0, .int .i64 0, .int .i64 0]) (t := 32) ?hr ?_; (case hd => rfl); (case hg => rfl); (case hr => first | (go_simp; done) | (go_simp; rfl)); intro gb161 hg w5 hbox hb; have n0_ := Aside0.mk (below_step (by repeat (first | (with_reducible first | exact HB.out | apply below_alloc | apply pw_below_drewN | apply below_drew1) | exact HB.out)) hb); have n1_ := Aside0.mk (hbox); have n2_ := Aside0.mk ((by rw [hg]; exact (below_size (by repeat (first | (with_reducible first | exact HB.out | apply below_alloc | apply pw_below_drewN | apply below_drew1) | exact HB.out))) : w.heap.size ≤ gb161)); have n3_ := Aside0.mk ((by rw [hg]; exact (below_size (by repeat (first | (with_reducible first | exact HB.out | apply below_alloc | apply pw_below_drewN | apply below_drew1) | exact HB.out))) : w.heap.size ≤ gb161)); clear HB; have HB := n0_; have BK161 := n1_; have GW161 := n2_; have GE161 := n3_; clear n0_ n1_ n2_ n3_; clear hb hbox hg; have hcz6_0 : w5.cell? ⟨gb161, 0, none⟩ = some (.string (⟨#[]⟩ : ByteArray)) := (blk_cell BK161.out 0).trans rfl; have hcz6_1 : w5.cell? ⟨gb161, 1, none⟩ = some (.int .i64 0) := (blk_cell BK161.out 1).trans rfl; have hcz6_2 : w5.cell? ⟨gb161, 2, none⟩ = some (.int .i64 0) := (blk_cell BK161.out 2).trans rfl; have hcz6_3 : w5.cell? ⟨gb161, 3, none⟩ = some (.int .i64 0) := (blk_cell BK161.out 3).trans rfl; have hfz6_0 := blk_frozen BK161.out 0; have hfz6_1 := blk_frozen BK161.out 1; have hfz6_2 := blk_frozen BK161.out 2; have hfz6_3 := blk_frozen BK161.out 3) | ((with_reducible refine gate_store (t := 32) (p := 4) rfl ?_); (try (rw [drewN_self w5]; generalize hq_ : World.drewN w5 _ = w5; have n0_ := Aside0.mk (blk_at hq_ BK161.out); have n1_ := Aside0.mk (below_at hq_ HB.out); clear hq_ BK161 HB; have BK161 := n0_; have HB := n1_; clear n0_ n1_)); refine store_event (t := 32) (p := 4) (v := ?vo_w7) (w1 := ((((w5.setCell ⟨gb161, 0, none⟩ (.string ((rd_T32 l0 x3_1).f0))).setCell ⟨gb161, 1, none⟩ (.int .i64 ((rd_T32 l0 x3_1).f1))).setCell ⟨gb161, 2, none⟩ (.int .i64 ((rd_T32 l0 x3_1).f2.f0))).setCell ⟨gb161, 3, none⟩ (.int .i64 ((rd_T32 l0 x3_1).f2.f1)))) ?hg ?ho ?hn ?hr ?_; (case ho => rfl); (case hg => rfl); (case hn => rfl); (case hr => first | (go_simp; done) | (go_simp; rfl)); intro w7 hw; have n0_ : Aside0 (w7.heap[gb161]? = some (.cells #[.string ((rd_T32 l0 x3_1).f0), .int .i64 ((rd_T32 l0 x3_1).f1), .int .i64 ((rd_T32 l0 x3_1).f2.f0), .int .i64 ((rd_T32 l0 x3_1).f2.f1)] 32 (0, 0))) := ⟨(by rw [hw]; exact (by (with_reducible repeat (first | refine blk_drewN ?_ _ | refine blk_drew ?_ | refine blk_alloc ?_ _)); refine blk_put (cs := #[.string ((rd_T32 l0 x3_1).f0), .int .i64 ((rd_T32 l0 x3_1).f1), .int .i64 ((rd_T32 l0 x3_1).f2.f0), .int .i64 0]) ?_ 3 _ rfl; (with_reducible repeat (first | refine blk_drewN ?_ _ | refine blk_drew ?_ | refine blk_alloc ?_ _)); refine blk_put (cs := #[.string ((rd_T32 l0 x3_1).f0), .int .i64 ((rd_T32 l0 x3_1).f1), .int .i64 0, .int .i64 0]) ?_ 2 _ rfl; (with_reducible repeat (first | refine blk_drewN ?_ _ | refine blk_drew ?_ | refine blk_alloc ?_ _)); refine blk_put (cs := #[.string ((rd_T32 l0 x3_1).f0), .int .i64 0, .int .i64 0, .int .i64 0]) ?_ 1 _ rfl; (with_reducible repeat (first | refine blk_drewN ?_ _ | refine blk_drew ?_ | refine blk_alloc ?_ _)); refine blk_put (cs := #[.string (⟨#[]⟩ : ByteArray), .int .i64 0, .int .i64 0, .int .i64 0]) ?_ 0 _ rfl; (with_reducible repeat (first | refine blk_drewN ?_ _ | refine blk_drew ?_ | refine blk_alloc ?_ _)); exact BK161.out))⟩; have n1_ : Aside0 (Below w.heap.size w w7) := ⟨(by rw [hw]; exact (by repeat (first | (with_reducible first | exact HB.out | apply below_alloc | apply pw_below_drewN | apply below_drew1 | refine below_set ?_ GE161.out) | exact HB.out)))⟩; clear hw; clear BK161; clear HB; have BK161 := n0_; have HB := n1_; clear n0_ n1_)))
     (try simp only [Act.put, List.setIfInBounds_toArray, List.set_cons_zero, List.set_cons_succ])
     go_cut [59] (fun v59 wc => ∃ (kq : Nat) (x59_3 : Bool), v59 = .bool x59_3 ∧ Aside0 (recensionlaw23_may.j1 kq l0 x3_1 x59_3 ((rd_T32 l0 x3_1).f0) ((rd_T32 l0 x3_1).f1) ((rd_T32 l0 x3_1).f2.f0) ((rd_T32 l0 x3_1).f2.f1) = some r) ∧ Aside0 (kq ≤ k1) ∧ Aside0 (wc.heap[gb161]? = some (.cells #[.string ((rd_T32 l0 x3_1).f0), .int .i64 ((rd_T32 l0 x3_1).f1), .int .i64 ((rd_T32 l0 x3_1).f2.f0), .int .i64 ((rd_T32 l0 x3_1).f2.f1)] 32 (0, 0))) ∧ Aside0 (Below w.heap.size w wc))
     case first =>
      have H := HC4.out
      clear HC4
      by_cases c8 : (((rd_T32 l0 x3_1).f0).size : Int) < 1
      ·rw [if_pos c8] at H
       have c8b0 : decide ((((rd_T32 l0 x3_1).f0).size : Int) < 1) = true := decide_eq_true c8
       have c8b1 : decide (((rd_T32 l0 x3_1).f0).size < 1) = true := decide_eq_true (by omega)
       clear c8
       (first | rw [c8b0] | (simp only [i64_w, i32_w]; rw [c8b0]) | skip)
       have H' := Aside0.mk H
       clear H
       have hcz9_0 : w7.cell? ⟨gb161, 0, none⟩ = some (.string ((rd_T32 l0 x3_1).f0)) := (blk_cell BK161.out 0).trans rfl
       have hcz9_1 : w7.cell? ⟨gb161, 1, none⟩ = some (.int .i64 ((rd_T32 l0 x3_1).f1)) := (blk_cell BK161.out 1).trans rfl
       have hcz9_2 : w7.cell? ⟨gb161, 2, none⟩ = some (.int .i64 ((rd_T32 l0 x3_1).f2.f0)) := (blk_cell BK161.out 2).trans rfl
       have hcz9_3 : w7.cell? ⟨gb161, 3, none⟩ = some (.int .i64 ((rd_T32 l0 x3_1).f2.f1)) := (blk_cell BK161.out 3).trans rfl
       have hfz9_0 := blk_frozen BK161.out 0
       have hfz9_1 := blk_frozen BK161.out 1
       have hfz9_2 := blk_frozen BK161.out 2
       have hfz9_3 := blk_frozen BK161.out 3
       go_wp2
       repeat (go_quiet (fail); try go_wp2)
       go_meet
       case rel => exact ⟨_, (true), (by first | rfl | (simp; done) | (simp [*]; done)), H', ⟨by have := HK1.out; first | omega | exact Nat.le_refl _⟩, ⟨by (with_reducible repeat (first | refine blk_drewN ?_ _ | refine blk_drew ?_ | refine blk_alloc ?_ _)); exact BK161.out⟩, ⟨by repeat (first | (with_reducible first | exact HB.out | apply below_alloc | apply pw_below_drewN | apply below_drew1 | refine below_set ?_ GE161.out) | exact HB.out)⟩⟩
      ·rw [if_neg c8] at H
       have c8b0 : decide ((((rd_T32 l0 x3_1).f0).size : Int) < 1) = false := decide_eq_false c8
       have c8b1 : decide (((rd_T32 l0 x3_1).f0).size < 1) = false := decide_eq_false (by omega)
       clear c8
       (first | rw [c8b0] | (simp only [i64_w, i32_w]; rw [c8b0]) | skip)
       by_cases c10 : (((rd_T32 l0 x3_1).f0).size : Int) > 20
       ·rw [if_pos c10] at H
        have c10b0 : decide (20 < (((rd_T32 l0 x3_1).f0).size : Int)) = true := decide_eq_true c10
        have c10b1 : decide (20 < ((rd_T32 l0 x3_1).f0).size) = true := decide_eq_true (by omega)
        clear c10
        have H' := Aside0.mk H
        clear H
        have hcz11_0 : w7.cell? ⟨gb161, 0, none⟩ = some (.string ((rd_T32 l0 x3_1).f0)) := (blk_cell BK161.out 0).trans rfl
        have hcz11_1 : w7.cell? ⟨gb161, 1, none⟩ = some (.int .i64 ((rd_T32 l0 x3_1).f1)) := (blk_cell BK161.out 1).trans rfl
        have hcz11_2 : w7.cell? ⟨gb161, 2, none⟩ = some (.int .i64 ((rd_T32 l0 x3_1).f2.f0)) := (blk_cell BK161.out 2).trans rfl
        have hcz11_3 : w7.cell? ⟨gb161, 3, none⟩ = some (.int .i64 ((rd_T32 l0 x3_1).f2.f1)) := (blk_cell BK161.out 3).trans rfl
        have hfz11_0 := blk_frozen BK161.out 0
        have hfz11_1 := blk_frozen BK161.out 1
        have hfz11_2 := blk_frozen BK161.out 2
        have hfz11_3 := blk_frozen BK161.out 3
        go_wp2
        repeat (go_quiet (fail); try go_wp2)
        go_meet
        case rel => exact ⟨_, (true), (by first | rfl | (simp; done) | (simp [*]; done)), H', ⟨by have := HK1.out; first | omega | exact Nat.le_refl _⟩, ⟨by (with_reducible repeat (first | refine blk_drewN ?_ _ | refine blk_drew ?_ | refine blk_alloc ?_ _)); exact BK161.out⟩, ⟨by repeat (first | (with_reducible first | exact HB.out | apply below_alloc | apply pw_below_drewN | apply below_drew1 | refine below_set ?_ GE161.out) | exact HB.out)⟩⟩
       ·rw [if_neg c10] at H
        have c10b0 : decide (20 < (((rd_T32 l0 x3_1).f0).size : Int)) = false := decide_eq_false c10
        have c10b1 : decide (20 < ((rd_T32 l0 x3_1).f0).size) = false := decide_eq_false (by omega)
        clear c10
        by_cases c12 : x3_1 > 0
        ·rw [if_pos c12] at H
         have c12b0 : decide (0 < x3_1) = true := decide_eq_true c12
         clear c12
         obtain ⟨ji13, hji13⟩ : ∃ j_ : Int, (wrap64 (x3_1 - 1)) = j_ := ⟨_, rfl⟩
         replace H : (if 0 ≤ (ji13) then (if (ji13) < (l0.length : Int) then (if ((Op.bytesLess (((rd_T32 l0 (ji13)).f0).toList) (((rd_T32 l0 x3_1).f0).toList)) = true) then (if ((rd_T32 l0 x3_1).f1) < 0 then (recensionlaw23_may.j1 k1 l0 x3_1 true ((rd_T32 l0 x3_1).f0) ((rd_T32 l0 x3_1).f1) ((rd_T32 l0 x3_1).f2.f0) ((rd_T32 l0 x3_1).f2.f1)) else (if ((rd_T32 l0 x3_1).f1) > 65536 then (recensionlaw23_may.j1 k1 l0 x3_1 true ((rd_T32 l0 x3_1).f0) ((rd_T32 l0 x3_1).f1) ((rd_T32 l0 x3_1).f2.f0) ((rd_T32 l0 x3_1).f2.f1)) else (recensionlaw23_may.j1 k1 l0 x3_1 (((rd_T32 l0 x3_1).f2.f1) != (wrap64 (Int.tdiv (wrap64 (((rd_T32 l0 x3_1).f1) + 63)) 64))) ((rd_T32 l0 x3_1).f0) ((rd_T32 l0 x3_1).f1) ((rd_T32 l0 x3_1).f2.f0) ((rd_T32 l0 x3_1).f2.f1)))) else (recensionlaw23_may.j1 k1 l0 x3_1 true ((rd_T32 l0 x3_1).f0) ((rd_T32 l0 x3_1).f1) ((rd_T32 l0 x3_1).f2.f0) ((rd_T32 l0 x3_1).f2.f1))) else (none)) else (none)) = some r := by first | (rw [hji13] at H; exact H) | (simp only [hji13] at H ⊢; exact H)
         have hji13w : (IntKind.i64.wrap (x3_1 - 1)) = ji13 := (i64_w _).trans hji13
         by_cases c14 : 0 ≤ (ji13)
         ·rw [if_pos c14] at H
          have c14b0 : decide (0 ≤ (ji13)) = true := decide_eq_true c14
          clear c14
          by_cases c15 : (ji13) < (l0.length : Int)
          ·rw [if_pos c15] at H
           have c15b0 : decide ((ji13) < (l0.length : Int)) = true := decide_eq_true c15
           clear c15
           by_cases c16 : ((Op.bytesLess (((rd_T32 l0 (ji13)).f0).toList) (((rd_T32 l0 x3_1).f0).toList)) = true)
           ·rw [if_pos c16] at H
            have c16b0 : (Op.bytesLess (((rd_T32 l0 (ji13)).f0).toList) (((rd_T32 l0 x3_1).f0).toList)) = true := c16
            clear c16
            by_cases c17 : ((rd_T32 l0 x3_1).f1) < 0
            ·rw [if_pos c17] at H
             have c17b0 : decide (((rd_T32 l0 x3_1).f1) < 0) = true := decide_eq_true c17
             clear c17
             have H' := Aside0.mk H
             clear H
             have hcz18_0 : w7.cell? ⟨gb161, 0, none⟩ = some (.string ((rd_T32 l0 x3_1).f0)) := (blk_cell BK161.out 0).trans rfl
             have hcz18_1 : w7.cell? ⟨gb161, 1, none⟩ = some (.int .i64 ((rd_T32 l0 x3_1).f1)) := (blk_cell BK161.out 1).trans rfl
             have hcz18_2 : w7.cell? ⟨gb161, 2, none⟩ = some (.int .i64 ((rd_T32 l0 x3_1).f2.f0)) := (blk_cell BK161.out 2).trans rfl
             have hcz18_3 : w7.cell? ⟨gb161, 3, none⟩ = some (.int .i64 ((rd_T32 l0 x3_1).f2.f1)) := (blk_cell BK161.out 3).trans rfl
             have hfz18_0 := blk_frozen BK161.out 0
             have hfz18_1 := blk_frozen BK161.out 1
             have hfz18_2 := blk_frozen BK161.out 2
             have hfz18_3 := blk_frozen BK161.out 3
             have p162 : 0 ≤ ((ji13) : Int) := of_decide_eq_true (by first | (with_reducible assumption) | assumption)
             have q162 : (ji13) < (l0.length : Int) := of_decide_eq_true (by first | (with_reducible assumption) | assumption)
             obtain ⟨ad162, e162, hx162_0, hx162_1, hx162_2, hx162_3⟩ := at_T32 HR0.out (ji13) p162 q162
             obtain rfl : ad160 = ad162 := (by injection e162)
             replace hx162_0 := (HB.out.cell (World.block_lt_of_cell? w _ hx162_0)).trans hx162_0
             replace hx162_1 := (HB.out.cell (World.block_lt_of_cell? w _ hx162_1)).trans hx162_1
             replace hx162_2 := (HB.out.cell (World.block_lt_of_cell? w _ hx162_2)).trans hx162_2
             replace hx162_3 := (HB.out.cell (World.block_lt_of_cell? w _ hx162_3)).trans hx162_3
             replace p162 := eq_true p162
             replace q162 := eq_true q162
             go_wp2
             repeat (go_quiet (fail); try go_wp2)
             go_meet
             case rel => exact ⟨_, (true), (by first | rfl | (simp; done) | (simp [*]; done)), H', ⟨by have := HK1.out; first | omega | exact Nat.le_refl _⟩, ⟨by (with_reducible repeat (first | refine blk_drewN ?_ _ | refine blk_drew ?_ | refine blk_alloc ?_ _)); exact BK161.out⟩, ⟨by repeat (first | (with_reducible first | exact HB.out | apply below_alloc | apply pw_below_drewN | apply below_drew1 | refine below_set ?_ GE161.out) | exact HB.out)⟩⟩
            ·rw [if_neg c17] at H
             have c17b0 : decide (((rd_T32 l0 x3_1).f1) < 0) = false := decide_eq_false c17
             clear c17
             by_cases c19 : ((rd_T32 l0 x3_1).f1) > 65536
             ·rw [if_pos c19] at H
              have c19b0 : decide (65536 < ((rd_T32 l0 x3_1).f1)) = true := decide_eq_true c19
              clear c19
              have H' := Aside0.mk H
              clear H
              have hcz20_0 : w7.cell? ⟨gb161, 0, none⟩ = some (.string ((rd_T32 l0 x3_1).f0)) := (blk_cell BK161.out 0).trans rfl
              have hcz20_1 : w7.cell? ⟨gb161, 1, none⟩ = some (.int .i64 ((rd_T32 l0 x3_1).f1)) := (blk_cell BK161.out 1).trans rfl
              have hcz20_2 : w7.cell? ⟨gb161, 2, none⟩ = some (.int .i64 ((rd_T32 l0 x3_1).f2.f0)) := (blk_cell BK161.out 2).trans rfl
              have hcz20_3 : w7.cell? ⟨gb161, 3, none⟩ = some (.int .i64 ((rd_T32 l0 x3_1).f2.f1)) := (blk_cell BK161.out 3).trans rfl
              have hfz20_0 := blk_frozen BK161.out 0
              have hfz20_1 := blk_frozen BK161.out 1
              have hfz20_2 := blk_frozen BK161.out 2
              have hfz20_3 := blk_frozen BK161.out 3
              have p162 : 0 ≤ ((ji13) : Int) := of_decide_eq_true (by first | (with_reducible assumption) | assumption)
              have q162 : (ji13) < (l0.length : Int) := of_decide_eq_true (by first | (with_reducible assumption) | assumption)
              obtain ⟨ad162, e162, hx162_0, hx162_1, hx162_2, hx162_3⟩ := at_T32 HR0.out (ji13) p162 q162
              obtain rfl : ad160 = ad162 := (by injection e162)
              replace hx162_0 := (HB.out.cell (World.block_lt_of_cell? w _ hx162_0)).trans hx162_0
              replace hx162_1 := (HB.out.cell (World.block_lt_of_cell? w _ hx162_1)).trans hx162_1
              replace hx162_2 := (HB.out.cell (World.block_lt_of_cell? w _ hx162_2)).trans hx162_2
              replace hx162_3 := (HB.out.cell (World.block_lt_of_cell? w _ hx162_3)).trans hx162_3
              replace p162 := eq_true p162
              replace q162 := eq_true q162
              go_wp2
              repeat (go_quiet (fail); try go_wp2)
              go_meet
              case rel => exact ⟨_, (true), (by first | rfl | (simp; done) | (simp [*]; done)), H', ⟨by have := HK1.out; first | omega | exact Nat.le_refl _⟩, ⟨by (with_reducible repeat (first | refine blk_drewN ?_ _ | refine blk_drew ?_ | refine blk_alloc ?_ _)); exact BK161.out⟩, ⟨by repeat (first | (with_reducible first | exact HB.out | apply below_alloc | apply pw_below_drewN | apply below_drew1 | refine below_set ?_ GE161.out) | exact HB.out)⟩⟩
             ·rw [if_neg c19] at H
              have c19b0 : decide (65536 < ((rd_T32 l0 x3_1).f1)) = false := decide_eq_false c19
              clear c19
              have H' := Aside0.mk H
              clear H
              have hcz21_0 : w7.cell? ⟨gb161, 0, none⟩ = some (.string ((rd_T32 l0 x3_1).f0)) := (blk_cell BK161.out 0).trans rfl
              have hcz21_1 : w7.cell? ⟨gb161, 1, none⟩ = some (.int .i64 ((rd_T32 l0 x3_1).f1)) := (blk_cell BK161.out 1).trans rfl
              have hcz21_2 : w7.cell? ⟨gb161, 2, none⟩ = some (.int .i64 ((rd_T32 l0 x3_1).f2.f0)) := (blk_cell BK161.out 2).trans rfl
              have hcz21_3 : w7.cell? ⟨gb161, 3, none⟩ = some (.int .i64 ((rd_T32 l0 x3_1).f2.f1)) := (blk_cell BK161.out 3).trans rfl
              have hfz21_0 := blk_frozen BK161.out 0
              have hfz21_1 := blk_frozen BK161.out 1
              have hfz21_2 := blk_frozen BK161.out 2
              have hfz21_3 := blk_frozen BK161.out 3
              have p162 : 0 ≤ ((ji13) : Int) := of_decide_eq_true (by first | (with_reducible assumption) | assumption)
              have q162 : (ji13) < (l0.length : Int) := of_decide_eq_true (by first | (with_reducible assumption) | assumption)
              obtain ⟨ad162, e162, hx162_0, hx162_1, hx162_2, hx162_3⟩ := at_T32 HR0.out (ji13) p162 q162
              obtain rfl : ad160 = ad162 := (by injection e162)
              replace hx162_0 := (HB.out.cell (World.block_lt_of_cell? w _ hx162_0)).trans hx162_0
              replace hx162_1 := (HB.out.cell (World.block_lt_of_cell? w _ hx162_1)).trans hx162_1
              replace hx162_2 := (HB.out.cell (World.block_lt_of_cell? w _ hx162_2)).trans hx162_2
              replace hx162_3 := (HB.out.cell (World.block_lt_of_cell? w _ hx162_3)).trans hx162_3
              replace p162 := eq_true p162
              replace q162 := eq_true q162
              go_wp2
              repeat (go_quiet (fail); try go_wp2)
              go_meet
              case rel => exact ⟨_, ((((rd_T32 l0 x3_1).f2.f1) != (wrap64 (Int.tdiv (wrap64 (((rd_T32 l0 x3_1).f1) + 63)) 64)))), (by first | rfl | (simp; done) | (simp [*]; done)), H', ⟨by have := HK1.out; first | omega | exact Nat.le_refl _⟩, ⟨by (with_reducible repeat (first | refine blk_drewN ?_ _ | refine blk_drew ?_ | refine blk_alloc ?_ _)); exact BK161.out⟩, ⟨by repeat (first | (with_reducible first | exact HB.out | apply below_alloc | apply pw_below_drewN | apply below_drew1 | refine below_set ?_ GE161.out) | exact HB.out)⟩⟩
           ·rw [if_neg c16] at H
            have c16b0 : (Op.bytesLess (((rd_T32 l0 (ji13)).f0).toList) (((rd_T32 l0 x3_1).f0).toList)) = false := by simpa using c16
            clear c16
            have H' := Aside0.mk H
            clear H
            have hcz22_0 : w7.cell? ⟨gb161, 0, none⟩ = some (.string ((rd_T32 l0 x3_1).f0)) := (blk_cell BK161.out 0).trans rfl
            have hcz22_1 : w7.cell? ⟨gb161, 1, none⟩ = some (.int .i64 ((rd_T32 l0 x3_1).f1)) := (blk_cell BK161.out 1).trans rfl
            have hcz22_2 : w7.cell? ⟨gb161, 2, none⟩ = some (.int .i64 ((rd_T32 l0 x3_1).f2.f0)) := (blk_cell BK161.out 2).trans rfl
            have hcz22_3 : w7.cell? ⟨gb161, 3, none⟩ = some (.int .i64 ((rd_T32 l0 x3_1).f2.f1)) := (blk_cell BK161.out 3).trans rfl
            have hfz22_0 := blk_frozen BK161.out 0
            have hfz22_1 := blk_frozen BK161.out 1
            have hfz22_2 := blk_frozen BK161.out 2
            have hfz22_3 := blk_frozen BK161.out 3
            have p162 : 0 ≤ ((ji13) : Int) := of_decide_eq_true (by first | (with_reducible assumption) | assumption)
            have q162 : (ji13) < (l0.length : Int) := of_decide_eq_true (by first | (with_reducible assumption) | assumption)
            obtain ⟨ad162, e162, hx162_0, hx162_1, hx162_2, hx162_3⟩ := at_T32 HR0.out (ji13) p162 q162
            obtain rfl : ad160 = ad162 := (by injection e162)
            replace hx162_0 := (HB.out.cell (World.block_lt_of_cell? w _ hx162_0)).trans hx162_0
            replace hx162_1 := (HB.out.cell (World.block_lt_of_cell? w _ hx162_1)).trans hx162_1
            replace hx162_2 := (HB.out.cell (World.block_lt_of_cell? w _ hx162_2)).trans hx162_2
            replace hx162_3 := (HB.out.cell (World.block_lt_of_cell? w _ hx162_3)).trans hx162_3
            replace p162 := eq_true p162
            replace q162 := eq_true q162
            go_wp2
            repeat (go_quiet (fail); try go_wp2)
            go_meet
            case rel => exact ⟨_, (true), (by first | rfl | (simp; done) | (simp [*]; done)), H', ⟨by have := HK1.out; first | omega | exact Nat.le_refl _⟩, ⟨by (with_reducible repeat (first | refine blk_drewN ?_ _ | refine blk_drew ?_ | refine blk_alloc ?_ _)); exact BK161.out⟩, ⟨by repeat (first | (with_reducible first | exact HB.out | apply below_alloc | apply pw_below_drewN | apply below_drew1 | refine below_set ?_ GE161.out) | exact HB.out)⟩⟩
          ·rw [if_neg c15] at H
           exact absurd H (by simp)
         ·rw [if_neg c14] at H
          exact absurd H (by simp)
        ·rw [if_neg c12] at H
         have c12b0 : decide (0 < x3_1) = false := decide_eq_false c12
         clear c12
         by_cases c23 : ((rd_T32 l0 x3_1).f1) < 0
         ·rw [if_pos c23] at H
          have c23b0 : decide (((rd_T32 l0 x3_1).f1) < 0) = true := decide_eq_true c23
          clear c23
          have H' := Aside0.mk H
          clear H
          have hcz24_0 : w7.cell? ⟨gb161, 0, none⟩ = some (.string ((rd_T32 l0 x3_1).f0)) := (blk_cell BK161.out 0).trans rfl
          have hcz24_1 : w7.cell? ⟨gb161, 1, none⟩ = some (.int .i64 ((rd_T32 l0 x3_1).f1)) := (blk_cell BK161.out 1).trans rfl
          have hcz24_2 : w7.cell? ⟨gb161, 2, none⟩ = some (.int .i64 ((rd_T32 l0 x3_1).f2.f0)) := (blk_cell BK161.out 2).trans rfl
          have hcz24_3 : w7.cell? ⟨gb161, 3, none⟩ = some (.int .i64 ((rd_T32 l0 x3_1).f2.f1)) := (blk_cell BK161.out 3).trans rfl
          have hfz24_0 := blk_frozen BK161.out 0
          have hfz24_1 := blk_frozen BK161.out 1
          have hfz24_2 := blk_frozen BK161.out 2
          have hfz24_3 := blk_frozen BK161.out 3
          go_wp2
          repeat (go_quiet (fail); try go_wp2)
          go_meet
          case rel => exact ⟨_, (true), (by first | rfl | (simp; done) | (simp [*]; done)), H', ⟨by have := HK1.out; first | omega | exact Nat.le_refl _⟩, ⟨by (with_reducible repeat (first | refine blk_drewN ?_ _ | refine blk_drew ?_ | refine blk_alloc ?_ _)); exact BK161.out⟩, ⟨by repeat (first | (with_reducible first | exact HB.out | apply below_alloc | apply pw_below_drewN | apply below_drew1 | refine below_set ?_ GE161.out) | exact HB.out)⟩⟩
         ·rw [if_neg c23] at H
          have c23b0 : decide (((rd_T32 l0 x3_1).f1) < 0) = false := decide_eq_false c23
          clear c23
          by_cases c25 : ((rd_T32 l0 x3_1).f1) > 65536
          ·rw [if_pos c25] at H
           have c25b0 : decide (65536 < ((rd_T32 l0 x3_1).f1)) = true := decide_eq_true c25
           clear c25
           have H' := Aside0.mk H
           clear H
           have hcz26_0 : w7.cell? ⟨gb161, 0, none⟩ = some (.string ((rd_T32 l0 x3_1).f0)) := (blk_cell BK161.out 0).trans rfl
           have hcz26_1 : w7.cell? ⟨gb161, 1, none⟩ = some (.int .i64 ((rd_T32 l0 x3_1).f1)) := (blk_cell BK161.out 1).trans rfl
           have hcz26_2 : w7.cell? ⟨gb161, 2, none⟩ = some (.int .i64 ((rd_T32 l0 x3_1).f2.f0)) := (blk_cell BK161.out 2).trans rfl
           have hcz26_3 : w7.cell? ⟨gb161, 3, none⟩ = some (.int .i64 ((rd_T32 l0 x3_1).f2.f1)) := (blk_cell BK161.out 3).trans rfl
           have hfz26_0 := blk_frozen BK161.out 0
           have hfz26_1 := blk_frozen BK161.out 1
           have hfz26_2 := blk_frozen BK161.out 2
           have hfz26_3 := blk_frozen BK161.out 3
           go_wp2
           repeat (go_quiet (fail); try go_wp2)
           go_meet
           case rel => exact ⟨_, (true), (by first | rfl | (simp; done) | (simp [*]; done)), H', ⟨by have := HK1.out; first | omega | exact Nat.le_refl _⟩, ⟨by (with_reducible repeat (first | refine blk_drewN ?_ _ | refine blk_drew ?_ | refine blk_alloc ?_ _)); exact BK161.out⟩, ⟨by repeat (first | (with_reducible first | exact HB.out | apply below_alloc | apply pw_below_drewN | apply below_drew1 | refine below_set ?_ GE161.out) | exact HB.out)⟩⟩
          ·rw [if_neg c25] at H
           have c25b0 : decide (65536 < ((rd_T32 l0 x3_1).f1)) = false := decide_eq_false c25
           clear c25
           have H' := Aside0.mk H
           clear H
           have hcz27_0 : w7.cell? ⟨gb161, 0, none⟩ = some (.string ((rd_T32 l0 x3_1).f0)) := (blk_cell BK161.out 0).trans rfl
           have hcz27_1 : w7.cell? ⟨gb161, 1, none⟩ = some (.int .i64 ((rd_T32 l0 x3_1).f1)) := (blk_cell BK161.out 1).trans rfl
           have hcz27_2 : w7.cell? ⟨gb161, 2, none⟩ = some (.int .i64 ((rd_T32 l0 x3_1).f2.f0)) := (blk_cell BK161.out 2).trans rfl
           have hcz27_3 : w7.cell? ⟨gb161, 3, none⟩ = some (.int .i64 ((rd_T32 l0 x3_1).f2.f1)) := (blk_cell BK161.out 3).trans rfl
           have hfz27_0 := blk_frozen BK161.out 0
           have hfz27_1 := blk_frozen BK161.out 1
           have hfz27_2 := blk_frozen BK161.out 2
           have hfz27_3 := blk_frozen BK161.out 3
           go_wp2
           repeat (go_quiet (fail); try go_wp2)
           go_meet
           case rel => exact ⟨_, ((((rd_T32 l0 x3_1).f2.f1) != (wrap64 (Int.tdiv (wrap64 (((rd_T32 l0 x3_1).f1) + 63)) 64)))), (by first | rfl | (simp; done) | (simp [*]; done)), H', ⟨by have := HK1.out; first | omega | exact Nat.le_refl _⟩, ⟨by (with_reducible repeat (first | refine blk_drewN ?_ _ | refine blk_drew ?_ | refine blk_alloc ?_ _)); exact BK161.out⟩, ⟨by repeat (first | (with_reducible first | exact HB.out | apply below_alloc | apply pw_below_drewN | apply below_drew1 | refine below_set ?_ GE161.out) | exact HB.out)⟩⟩
     case rest =>
      clear HC4
      try clear c1
      try clear p1
      try clear q1
      try clear hx1
      try clear c2
      try clear c2b0
      try clear p2
      try clear c3
      try clear c3b0
      try clear p6
      try clear c8
      try clear c8b0
      try clear c8b1
      try clear c10
      try clear c10b0
      try clear c10b1
      try clear c12
      try clear c12b0
      try clear c14
      try clear c14b0
      try clear c15
      try clear c15b0
      try clear c16
      try clear c16b0
      try clear p16
      try clear q16
      try clear hx16
      try clear c17
      try clear c17b0
      try clear c19
      try clear c19b0
      try clear c23
      try clear c23b0
      try clear c25
      try clear c25b0
      try clear hcz11_0
      try clear hcz11_1
      try clear hcz11_2
      try clear hcz11_3
      try clear hcz18_0
      try clear hcz18_1
      try clear hcz18_2
      try clear hcz18_3
      try clear hcz20_0
      try clear hcz20_1
      try clear hcz20_2
      try clear hcz20_3
      try clear hcz21_0
      try clear hcz21_1
      try clear hcz21_2
      try clear hcz21_3
      try clear hcz22_0
      try clear hcz22_1
      try clear hcz22_2
      try clear hcz22_3
      try clear hcz24_0
      try clear hcz24_1
      try clear hcz24_2
      try clear hcz24_3
      try clear hcz26_0
      try clear hcz26_1
      try clear hcz26_2
      try clear hcz26_3
      try clear hcz27_0
      try clear hcz27_1
      try clear hcz27_2
      try clear hcz27_3
      try clear hcz6_0
      try clear hcz6_1
      try clear hcz6_2
      try clear hcz6_3
      try clear hcz9_0
      try clear hcz9_1
      try clear hcz9_2
      try clear hcz9_3
      try clear hfz11_0
      try clear hfz11_1
      try clear hfz11_2
      try clear hfz11_3
      try clear hfz18_0
      try clear hfz18_1
      try clear hfz18_2
      try clear hfz18_3
      try clear hfz20_0
      try clear hfz20_1
      try clear hfz20_2
      try clear hfz20_3
      try clear hfz21_0
      try clear hfz21_1
      try clear hfz21_2
      try clear hfz21_3
      try clear hfz22_0
      try clear hfz22_1
      try clear hfz22_2
      try clear hfz22_3
      try clear hfz24_0
      try clear hfz24_1
      try clear hfz24_2
      try clear hfz24_3
      try clear hfz26_0
      try clear hfz26_1
      try clear hfz26_2
      try clear hfz26_3
      try clear hfz27_0
      try clear hfz27_1
      try clear hfz27_2
      try clear hfz27_3
      try clear hfz6_0
      try clear hfz6_1
      try clear hfz6_2
      try clear hfz6_3
      try clear hfz9_0
      try clear hfz9_1
      try clear hfz9_2
      try clear hfz9_3
      try clear hx160_0
      try clear hx160_1
      try clear hx160_2
      try clear hx160_3
      try clear hx162_0
      try clear hx162_1
      try clear hx162_2
      try clear hx162_3
      try clear p160
      try clear p162
      try clear q160
      try clear q162
      obtain ⟨kq, x59_3, rfl, HA, HJ3, BK161, HB⟩ := hcut
      cases kq with
      | zero => exact absurd HA.out (by simp [recensionlaw23_may.j1])
      | succ kj3 =>
       have H := HA.out
       clear HA
       simp only [recensionlaw23_may.j1] at H
       by_cases c28 : x59_3 = true
       ·subst c28
        have H1 : (some false) = some r := by rw [if_pos rfl] at H; exact H
        clear H
        have H := H1
        clear H1
        obtain rfl := Option.some.inj H
        go_wp2
        repeat (go_quiet (fail); try go_wp2)
        go_ret
        exact ⟨by first | rfl | (simp [errW_none, errW_some] <;> rfl) | (simp [*, errW_none, errW_some] <;> rfl), by repeat (first | (with_reducible first | exact HB.out | apply below_alloc | apply pw_below_drewN | apply below_drew1 | refine below_set ?_ GE161.out) | exact HB.out)⟩
       ·replace c28 := Bool.eq_false_iff.mpr c28
        subst c28
        have H1 : (if ((rd_T32 l0 x3_1).f2.f0) < 0 then (some false) else (if ((rd_T32 l0 x3_1).f2.f0) > 2048 then (some false) else (if ((rd_T32 l0 x3_1).f2.f1) = 0 then (if ((rd_T32 l0 x3_1).f2.f0) = 0 then (recensionlaw23_may.l0 kj3 l0 (wrap64 (x3_1 + 1))) else (some false)) else (recensionlaw23_may.l0 kj3 l0 (wrap64 (x3_1 + 1)))))) = some r := by rw [if_neg (show ¬ (false = true) by decide)] at H; exact H
        clear H
        have H := H1
        clear H1
        by_cases c29 : ((rd_T32 l0 x3_1).f2.f0) < 0
        ·rw [if_pos c29] at H
         have c29b0 : decide (((rd_T32 l0 x3_1).f2.f0) < 0) = true := decide_eq_true c29
         clear c29
         obtain rfl := Option.some.inj H
         have hcz30_0 : wc.cell? ⟨gb161, 0, none⟩ = some (.string ((rd_T32 l0 x3_1).f0)) := (blk_cell BK161.out 0).trans rfl
         have hcz30_1 : wc.cell? ⟨gb161, 1, none⟩ = some (.int .i64 ((rd_T32 l0 x3_1).f1)) := (blk_cell BK161.out 1).trans rfl
         have hcz30_2 : wc.cell? ⟨gb161, 2, none⟩ = some (.int .i64 ((rd_T32 l0 x3_1).f2.f0)) := (blk_cell BK161.out 2).trans rfl
         have hcz30_3 : wc.cell? ⟨gb161, 3, none⟩ = some (.int .i64 ((rd_T32 l0 x3_1).f2.f1)) := (blk_cell BK161.out 3).trans rfl
         have hfz30_0 := blk_frozen BK161.out 0
         have hfz30_1 := blk_frozen BK161.out 1
         have hfz30_2 := blk_frozen BK161.out 2
         have hfz30_3 := blk_frozen BK161.out 3
         go_wp2
         repeat (go_quiet (fail); try go_wp2)
         go_ret
         exact ⟨by first | rfl | (simp [errW_none, errW_some] <;> rfl) | (simp [*, errW_none, errW_some] <;> rfl), by repeat (first | (with_reducible first | exact HB.out | apply below_alloc | apply pw_below_drewN | apply below_drew1 | refine below_set ?_ GE161.out) | exact HB.out)⟩
        ·rw [if_neg c29] at H
         have c29b0 : decide (((rd_T32 l0 x3_1).f2.f0) < 0) = false := decide_eq_false c29
         clear c29
         by_cases c31 : ((rd_T32 l0 x3_1).f2.f0) > 2048
         ·rw [if_pos c31] at H
          have c31b0 : decide (2048 < ((rd_T32 l0 x3_1).f2.f0)) = true := decide_eq_true c31
          clear c31
          obtain rfl := Option.some.inj H
          have hcz32_0 : wc.cell? ⟨gb161, 0, none⟩ = some (.string ((rd_T32 l0 x3_1).f0)) := (blk_cell BK161.out 0).trans rfl
          have hcz32_1 : wc.cell? ⟨gb161, 1, none⟩ = some (.int .i64 ((rd_T32 l0 x3_1).f1)) := (blk_cell BK161.out 1).trans rfl
          have hcz32_2 : wc.cell? ⟨gb161, 2, none⟩ = some (.int .i64 ((rd_T32 l0 x3_1).f2.f0)) := (blk_cell BK161.out 2).trans rfl
          have hcz32_3 : wc.cell? ⟨gb161, 3, none⟩ = some (.int .i64 ((rd_T32 l0 x3_1).f2.f1)) := (blk_cell BK161.out 3).trans rfl
          have hfz32_0 := blk_frozen BK161.out 0
          have hfz32_1 := blk_frozen BK161.out 1
          have hfz32_2 := blk_frozen BK161.out 2
          have hfz32_3 := blk_frozen BK161.out 3
          go_wp2
          repeat (go_quiet (fail); try go_wp2)
          go_ret
          exact ⟨by first | rfl | (simp [errW_none, errW_some] <;> rfl) | (simp [*, errW_none, errW_some] <;> rfl), by repeat (first | (with_reducible first | exact HB.out | apply below_alloc | apply pw_below_drewN | apply below_drew1 | refine below_set ?_ GE161.out) | exact HB.out)⟩
         ·rw [if_neg c31] at H
          have c31b0 : decide (2048 < ((rd_T32 l0 x3_1).f2.f0)) = false := decide_eq_false c31
          clear c31
          by_cases c33 : ((rd_T32 l0 x3_1).f2.f1) = 0
          ·rw [if_pos c33] at H
           have c33b0 : (((rd_T32 l0 x3_1).f2.f1) == 0) = true := beq_iff_eq.mpr c33
           have c33b1 : (((rd_T32 l0 x3_1).f2.f1) != 0) = false := bne_eq_false_iff_eq.mpr c33
           clear c33
           by_cases c34 : ((rd_T32 l0 x3_1).f2.f0) = 0
           ·rw [if_pos c34] at H
            have c34b0 : (((rd_T32 l0 x3_1).f2.f0) == 0) = true := beq_iff_eq.mpr c34
            have c34b1 : (((rd_T32 l0 x3_1).f2.f0) != 0) = false := bne_eq_false_iff_eq.mpr c34
            clear c34
            have H' := Aside0.mk H
            clear H
            have hcz35_0 : wc.cell? ⟨gb161, 0, none⟩ = some (.string ((rd_T32 l0 x3_1).f0)) := (blk_cell BK161.out 0).trans rfl
            have hcz35_1 : wc.cell? ⟨gb161, 1, none⟩ = some (.int .i64 ((rd_T32 l0 x3_1).f1)) := (blk_cell BK161.out 1).trans rfl
            have hcz35_2 : wc.cell? ⟨gb161, 2, none⟩ = some (.int .i64 ((rd_T32 l0 x3_1).f2.f0)) := (blk_cell BK161.out 2).trans rfl
            have hcz35_3 : wc.cell? ⟨gb161, 3, none⟩ = some (.int .i64 ((rd_T32 l0 x3_1).f2.f1)) := (blk_cell BK161.out 3).trans rfl
            have hfz35_0 := blk_frozen BK161.out 0
            have hfz35_1 := blk_frozen BK161.out 1
            have hfz35_2 := blk_frozen BK161.out 2
            have hfz35_3 := blk_frozen BK161.out 3
            go_wp2
            repeat (go_quiet (fail); try go_wp2)
            go_roundg kj3
            case measure => have := HK1.out; have := HJ3.out; omega
            case rel => exact ⟨(wrap64 (x3_1 + 1)), (by first | rfl | (simp; done) | (simp [*]; done)), H', ⟨by have := HK1.out; have := HJ3.out; omega⟩, ⟨by repeat (first | (with_reducible first | exact HB.out | apply below_alloc | apply pw_below_drewN | apply below_drew1 | refine below_set ?_ GE161.out) | exact HB.out)⟩⟩
           ·rw [if_neg c34] at H
            have c34b0 : (((rd_T32 l0 x3_1).f2.f0) == 0) = false := beq_eq_false_iff_ne.mpr c34
            have c34b1 : (((rd_T32 l0 x3_1).f2.f0) != 0) = true := bne_iff_ne.mpr c34
            obtain rfl := Option.some.inj H
            have hcz36_0 : wc.cell? ⟨gb161, 0, none⟩ = some (.string ((rd_T32 l0 x3_1).f0)) := (blk_cell BK161.out 0).trans rfl
            have hcz36_1 : wc.cell? ⟨gb161, 1, none⟩ = some (.int .i64 ((rd_T32 l0 x3_1).f1)) := (blk_cell BK161.out 1).trans rfl
            have hcz36_2 : wc.cell? ⟨gb161, 2, none⟩ = some (.int .i64 ((rd_T32 l0 x3_1).f2.f0)) := (blk_cell BK161.out 2).trans rfl
            have hcz36_3 : wc.cell? ⟨gb161, 3, none⟩ = some (.int .i64 ((rd_T32 l0 x3_1).f2.f1)) := (blk_cell BK161.out 3).trans rfl
            have hfz36_0 := blk_frozen BK161.out 0
            have hfz36_1 := blk_frozen BK161.out 1
            have hfz36_2 := blk_frozen BK161.out 2
            have hfz36_3 := blk_frozen BK161.out 3
            go_wp2
            repeat (go_quiet (fail); try go_wp2)
            go_ret
            exact ⟨by first | rfl | (simp [errW_none, errW_some] <;> rfl) | (simp [*, errW_none, errW_some] <;> rfl), by repeat (first | (with_reducible first | exact HB.out | apply below_alloc | apply pw_below_drewN | apply below_drew1 | refine below_set ?_ GE161.out) | exact HB.out)⟩
          ·rw [if_neg c33] at H
           have c33b0 : (((rd_T32 l0 x3_1).f2.f1) == 0) = false := beq_eq_false_iff_ne.mpr c33
           have c33b1 : (((rd_T32 l0 x3_1).f2.f1) != 0) = true := bne_iff_ne.mpr c33
           have H' := Aside0.mk H
           clear H
           have hcz37_0 : wc.cell? ⟨gb161, 0, none⟩ = some (.string ((rd_T32 l0 x3_1).f0)) := (blk_cell BK161.out 0).trans rfl
           have hcz37_1 : wc.cell? ⟨gb161, 1, none⟩ = some (.int .i64 ((rd_T32 l0 x3_1).f1)) := (blk_cell BK161.out 1).trans rfl
           have hcz37_2 : wc.cell? ⟨gb161, 2, none⟩ = some (.int .i64 ((rd_T32 l0 x3_1).f2.f0)) := (blk_cell BK161.out 2).trans rfl
           have hcz37_3 : wc.cell? ⟨gb161, 3, none⟩ = some (.int .i64 ((rd_T32 l0 x3_1).f2.f1)) := (blk_cell BK161.out 3).trans rfl
           have hfz37_0 := blk_frozen BK161.out 0
           have hfz37_1 := blk_frozen BK161.out 1
           have hfz37_2 := blk_frozen BK161.out 2
           have hfz37_3 := blk_frozen BK161.out 3
           go_wp2
           repeat (go_quiet (fail); try go_wp2)
           go_roundg kj3
           case measure => have := HK1.out; have := HJ3.out; omega
           case rel => exact ⟨(wrap64 (x3_1 + 1)), (by first | rfl | (simp; done) | (simp [*]; done)), H', ⟨by have := HK1.out; have := HJ3.out; omega⟩, ⟨by repeat (first | (with_reducible first | exact HB.out | apply below_alloc | apply pw_below_drewN | apply below_drew1 | refine below_set ?_ GE161.out) | exact HB.out)⟩⟩
    ·rw [if_neg c3] at H
     exact absurd H (by simp)
   ·rw [if_neg c2] at H
    have c2b0 : decide (x3_1 < (l0.length : Int)) = false := decide_eq_false c2
    clear c2
    obtain rfl := Option.some.inj H
    go_wp2
    repeat (go_quiet (fail); try go_wp2)
    go_ret
    exact ⟨by first | rfl | (simp [errW_none, errW_some] <;> rfl) | (simp [*, errW_none, errW_some] <;> rfl), by repeat (first | (with_reducible first | exact HB.out | apply below_alloc | apply pw_below_drewN | apply below_drew1) | exact HB.out)⟩

/-! ### recensionref1_Put: function 25 -/
mutual
def recensionref1_Put.j0 : Nat → Int → Option (List Int)
 | 0, _ => none
 | k + 1, x3 => recensionref1_Put.l0 k x3 ([] : List Int)
def recensionref1_Put.l0 : Nat → Int → List Int → Option (List Int)
 | 0, _, _ => none
 | k + 1, x3, x4 => if x3 ≥ 128 then (if x4.length < 140737488355328 then (recensionref1_Put.l0 k (IntKind.u64.wrap (Int.tdiv x3 128)) (x4 ++ [(IntKind.u64.wrap ((Int.tmod x3 128) + 128)) % 256])) else (none)) else (if x4.length < 140737488355328 then (some (x4 ++ [(x3) % 256])) else (none))
end
def recensionref1_Put.f (k : Nat) (a0 : Int) : Option (List Int) := if a0 < 0 then (recensionref1_Put.j0 k (Go.bits .xor .u64 18446744073709551615 (IntKind.u64.wrap ((IntKind.u64.wrap (a0)) * 2)))) else (recensionref1_Put.j0 k (IntKind.u64.wrap ((IntKind.u64.wrap (a0)) * 2)))
theorem recensionref1_Put.mono_l : ∀ k, (∀ y0, LeO (recensionref1_Put.j0 k y0) (recensionref1_Put.j0 (k + 1) y0)) ∧ (∀ y0 y1, LeO (recensionref1_Put.l0 k y0 y1) (recensionref1_Put.l0 (k + 1) y0 y1))
 | 0 => ⟨fun _ r h => by simp [recensionref1_Put.j0] at h, fun _ _ r h => by simp [recensionref1_Put.l0] at h⟩
 | k + 1 => by
  obtain ⟨ih0, ih1⟩ := recensionref1_Put.mono_l k
  refine ⟨?_, ?_⟩
  ·intro y0
   unfold recensionref1_Put.j0
   repeat' first
   | (with_reducible exact ih0 _)
   | (with_reducible exact ih1 _ _)
   | (with_reducible exact LeO.refl _)
   | (with_reducible exact LeO.none _)
   | (with_reducible refine LeO.ite ?_ ?_)
   | (with_reducible refine LeO.bind ?_ (fun _ => ?_))
   | exact ih0 _
   | exact ih1 _ _
   | exact LeO.none _
   | refine LeO.ite ?_ ?_
   | refine LeO.bind ?_ (fun _ => ?_)
  ·intro y0 y1
   unfold recensionref1_Put.l0
   repeat' first
   | (with_reducible exact ih0 _)
   | (with_reducible exact ih1 _ _)
   | (with_reducible exact LeO.refl _)
   | (with_reducible exact LeO.none _)
   | (with_reducible refine LeO.ite ?_ ?_)
   | (with_reducible refine LeO.bind ?_ (fun _ => ?_))
   | exact ih0 _
   | exact ih1 _ _
   | exact LeO.none _
   | refine LeO.ite ?_ ?_
   | refine LeO.bind ?_ (fun _ => ?_)
theorem recensionref1_Put.mono : ∀ a0 k, LeO (recensionref1_Put.f k a0) (recensionref1_Put.f (k + 1) a0) := by
 intro a0 k
 obtain ⟨ih0, ih1⟩ := recensionref1_Put.mono_l k
 unfold recensionref1_Put.f
 repeat' first
   | (with_reducible exact ih0 _)
   | (with_reducible exact ih1 _ _)
   | (with_reducible exact LeO.refl _)
   | (with_reducible exact LeO.none _)
   | (with_reducible refine LeO.ite ?_ ?_)
   | (with_reducible refine LeO.bind ?_ (fun _ => ?_))
   | exact ih0 _
   | exact ih1 _ _
   | exact LeO.none _
   | refine LeO.ite ?_ ?_
   | refine LeO.bind ?_ (fun _ => ?_)
set_option maxHeartbeats 8000000 in
set_option maxRecDepth 100000 in
theorem recensionref1_Put.calls (k : Nat) (a0 : Int) (r : List Int) (w : World) (h : recensionref1_Put.f k a0 = some r) :
  Calls Try.prog 25 #[.int .i64 a0] w fun e w' => ∃ v0_ : Value, e = .returned (v0_) ∧ Kd.R (Kd.int .u8) 5 w' w.heap.size (fun _ => True) v0_ r ∧ Below w.heap.size w w' := by
 have HB := Aside0.mk (Below.refl w.heap.size w)
 have H : (if a0 < 0 then (recensionref1_Put.j0 k (Go.bits .xor .u64 18446744073709551615 (IntKind.u64.wrap ((IntKind.u64.wrap (a0)) * 2)))) else (recensionref1_Put.j0 k (IntKind.u64.wrap ((IntKind.u64.wrap (a0)) * 2)))) = some r := h
 clear h
 have HC2 := Aside0.mk H
 clear H
 go_enter Try.func25, Try.ntmps25
 go_upto_if 9 with (fail)
 go_cut [3] (fun v3 wc => ∃ (kq : Nat) (x3_1 : Int), v3 = .int .u64 x3_1 ∧ Aside0 (recensionref1_Put.j0 kq x3_1 = some r) ∧ Aside0 (kq ≤ k) ∧ Aside0 (Below w.heap.size w wc))
 case first =>
  have H := HC2.out
  clear HC2
  by_cases c3 : a0 < 0
  ·rw [if_pos c3] at H
   have c3b0 : decide (a0 < 0) = true := decide_eq_true c3
   clear c3
   (first | rw [c3b0] | (simp only [i64_w, i32_w]; rw [c3b0]) | skip)
   have H' := Aside0.mk H
   clear H
   go_wp2
   go_meet
   case rel => exact ⟨_, (Go.bits .xor .u64 18446744073709551615 (IntKind.u64.wrap ((IntKind.u64.wrap (a0)) * 2))), (by first | rfl | (simp; done) | (simp [*]; done)), H', ⟨by first | omega | exact Nat.le_refl _⟩, ⟨by repeat (first | (with_reducible first | exact HB.out | apply below_alloc | apply pw_below_drewN | apply below_drew1) | exact HB.out)⟩⟩
  ·rw [if_neg c3] at H
   have c3b0 : decide (a0 < 0) = false := decide_eq_false c3
   clear c3
   (first | rw [c3b0] | (simp only [i64_w, i32_w]; rw [c3b0]) | skip)
   have H' := Aside0.mk H
   clear H
   go_wp2
   go_meet
   case rel => exact ⟨_, (IntKind.u64.wrap ((IntKind.u64.wrap (a0)) * 2)), (by first | rfl | (simp; done) | (simp [*]; done)), H', ⟨by first | omega | exact Nat.le_refl _⟩, ⟨by repeat (first | (with_reducible first | exact HB.out | apply below_alloc | apply pw_below_drewN | apply below_drew1) | exact HB.out)⟩⟩
 case rest =>
  clear HC2
  try clear c2
  try clear p2
  try clear c3
  try clear c3b0
  obtain ⟨kq, x3_1, rfl, HA, HJ1, HB⟩ := hcut
  cases kq with
  | zero => exact absurd HA.out (by simp [recensionref1_Put.j0])
  | succ kj1 =>
   have H := HA.out
   clear HA
   simp only [recensionref1_Put.j0] at H
   have H' := Aside0.mk H
   clear H
   go_wp2
   go_loopg [3, 4] kj1 (fun kq v3 v4 w' => ∃ (x3_2 : Int) (x4_2 : List Int), v3 = .int .u64 x3_2 ∧ Aside0 (recensionref1_Put.l0 kq x3_2 x4_2 = some r) ∧ Aside0 (kq ≤ kj1) ∧ Aside0 (Kd.R (Kd.int .u8) 5 w' w.heap.size (fun _ => True) v4 x4_2) ∧ Aside0 (Below w.heap.size w w'))
   case atStart => exact ⟨(x3_1), (([] : List Int)), (by first | rfl | (simp; done) | (simp [*]; done)), H', ⟨Nat.le_refl _⟩, ⟨by first | exact Kd.R_nil _ _ _ _ _ | exact Kd.N_nil _ _ _ _ _ | exact Kd.V_nil _ _ _ _ _ | exact Kd.Q_nil _ _ _ _ _ | exact Kd.S_nil _ _ _ _ _⟩, ⟨by repeat (first | (with_reducible first | exact HB.out | apply below_alloc | apply pw_below_drewN | apply below_drew1) | exact HB.out)⟩⟩
   case round =>
    clear H'
    try clear c2
    try clear p2
    try clear c3
    try clear c3b0
    try clear p2
    obtain ⟨x3_2, x4_2, rfl, HA, HK2, HO_4, HB⟩ := hrel
    cases gk with
    | zero => exact absurd HA.out (by simp [recensionref1_Put.l0])
    | succ k2 =>
     have H := HA.out
     clear HA
     simp only [recensionref1_Put.l0] at H
     by_cases c4 : x3_2 ≥ 128
     ·rw [if_pos c4] at H
      have c4b0 : decide (128 ≤ x3_2) = true := decide_eq_true c4
      clear c4
      by_cases c5 : x4_2.length < 140737488355328
      ·rw [if_pos c5] at H
       have LMc5 := Aside0.mk c5
       clear c5
       obtain ⟨y163, hy163⟩ : ∃ y_ : List Int, y_ = (x4_2 ++ [(IntKind.u64.wrap ((Int.tmod x3_2 128) + 128)) % 256]) := ⟨_, rfl⟩
       replace H : (recensionref1_Put.l0 k2 (IntKind.u64.wrap (Int.tdiv x3_2 128)) y163) = some r := by first | (rw [hy163]; with_reducible exact H) | (have H2_ := (Option.bind_some _ _).symm.trans H; rw [hy163]; with_reducible exact H2_) | (have H2_ := (Option.bind_some _ _).symm.trans H; with_reducible exact H2_) | with_reducible exact H | (rw [hy163]; exact H) | exact H
       have Ny163 := Aside0.mk hy163
       clear hy163
       have H' := Aside0.mk H
       clear H
       go_wp2_with (first | ((with_reducible refine gate_builtin (b := .append) (xs := #[.tmp 14, .tmp 19]) rfl ?_); at_builtin; refine Kd.R_append (Kd.int .u8) (w0 := w) w.heap.size rfl (.tmp 14) (.tmp 19) 26 5 (.int .u8 0) 1 rfl Try.underlying26 info5 rfl (by decide) (by omega) u4 x4_2 ((IntKind.u64.wrap ((Int.tmod x3_2 128) + 128)) % 256) [.int .u8 ((IntKind.u64.wrap ((Int.tmod x3_2 128) + 128)) % 256)] (fun _ => True) (fun _ => False) rfl rfl ?aP (fun _ hk => hk.elim) ?aF ?aO ?aB ?aS ?aL ?_; (case aP => exact rfl); (case aB => exact (by repeat (first | (with_reducible first | exact HB.out | apply below_alloc | apply pw_below_drewN | apply below_drew1) | exact HB.out))); (case aF => exact (fun _ _ => trivial)); (case aO => exact (by (with_reducible repeat (first | apply Kd.R_alloc | apply Kd.R_drewN | apply Kd.R_drew)); exact HO_4.out)); (case aS => exact (below_size (by repeat (first | (with_reducible first | exact HB.out | apply below_alloc | apply pw_below_drewN | apply below_drew1) | exact HB.out)))); (case aL => have := LMc5.out; omega); intro v164 w6 ho hb hg hat; rw [← Ny163.out] at ho; have n0_ := Aside0.mk (hb); have n1_ := Aside0.mk (ho); clear HB; clear HO_4; have HB := n0_; have HO165 := n1_; clear n0_ n1_; clear ho hb hg hat))
       go_roundg k2
       case measure => have := HJ1.out; have := HK2.out; omega
       case rel => exact ⟨(IntKind.u64.wrap (Int.tdiv x3_2 128)), (y163), (by first | rfl | (simp; done) | (simp [*]; done)), H', ⟨by have := HJ1.out; have := HK2.out; omega⟩, ⟨by (with_reducible repeat (first | apply Kd.R_alloc | apply Kd.R_drewN | apply Kd.R_drew)); exact HO165.out⟩, ⟨by repeat (first | (with_reducible first | exact HB.out | apply below_alloc | apply pw_below_drewN | apply below_drew1) | exact HB.out)⟩⟩
      ·rw [if_neg c5] at H
       exact absurd H (by simp)
     ·rw [if_neg c4] at H
      have c4b0 : decide (128 ≤ x3_2) = false := decide_eq_false c4
      clear c4
      by_cases c7 : x4_2.length < 140737488355328
      ·rw [if_pos c7] at H
       have LMc7 := Aside0.mk c7
       clear c7
       obtain ⟨y166, hy166⟩ : ∃ y_ : List Int, y_ = (x4_2 ++ [(x3_2) % 256]) := ⟨_, rfl⟩
       replace H : (some y166) = some r := by first | (rw [hy166]; with_reducible exact H) | (have H2_ := (Option.bind_some _ _).symm.trans H; rw [hy166]; with_reducible exact H2_) | (have H2_ := (Option.bind_some _ _).symm.trans H; with_reducible exact H2_) | with_reducible exact H | (rw [hy166]; exact H) | exact H
       have Ny166 := Aside0.mk hy166
       clear hy166
       obtain rfl := Option.some.inj H
       go_wp2_with (first | ((with_reducible refine gate_builtin (b := .append) (xs := #[.tmp 23, .tmp 26]) rfl ?_); at_builtin; refine Kd.R_append (Kd.int .u8) (w0 := w) w.heap.size rfl (.tmp 23) (.tmp 26) 26 5 (.int .u8 0) 1 rfl Try.underlying26 info5 rfl (by decide) (by omega) u4 x4_2 ((x3_2) % 256) [.int .u8 ((x3_2) % 256)] (fun _ => True) (fun _ => False) rfl rfl ?aP (fun _ hk => hk.elim) ?aF ?aO ?aB ?aS ?aL ?_; (case aP => exact rfl); (case aB => exact (by repeat (first | (with_reducible first | exact HB.out | apply below_alloc | apply pw_below_drewN | apply below_drew1) | exact HB.out))); (case aF => exact (fun _ _ => trivial)); (case aO => exact (by (with_reducible repeat (first | apply Kd.R_alloc | apply Kd.R_drewN | apply Kd.R_drew)); exact HO_4.out)); (case aS => exact (below_size (by repeat (first | (with_reducible first | exact HB.out | apply below_alloc | apply pw_below_drewN | apply below_drew1) | exact HB.out)))); (case aL => have := LMc7.out; omega); intro v167 w8 ho hb hg hat; rw [← Ny166.out] at ho; have n0_ := Aside0.mk (hb); have n1_ := Aside0.mk (ho); clear HB; clear HO_4; have HB := n0_; have HO168 := n1_; clear n0_ n1_; clear ho hb hg hat))
       go_ret
       exact ⟨_, by first | rfl | (simp [errW_none, errW_some] <;> rfl) | (simp [*, errW_none, errW_some] <;> rfl), by (with_reducible repeat (first | apply Kd.R_alloc | apply Kd.R_drewN | apply Kd.R_drew)); exact HO168.out, by repeat (first | (with_reducible first | exact HB.out | apply below_alloc | apply pw_below_drewN | apply below_drew1) | exact HB.out)⟩
      ·rw [if_neg c7] at H
       exact absurd H (by simp)

/-! ### recensionref1_PutText: function 26 -/
def recensionref1_PutText.f (k : Nat) (a0 : ByteArray) : Option (List Int) := (recensionref1_Put.f k (a0.size : Int)).bind fun t169 => (if t169.length + a0.size < 140737488355328 then (some (t169 ++ bytesOf a0)) else (none))
theorem recensionref1_PutText.mono : ∀ a0 k, LeO (recensionref1_PutText.f k a0) (recensionref1_PutText.f (k + 1) a0) := by
 intro a0 k
 unfold recensionref1_PutText.f
 repeat' first
   | (with_reducible exact recensionref1_Put.mono _ _)
   | (with_reducible exact LeO.refl _)
   | (with_reducible exact LeO.none _)
   | (with_reducible refine LeO.ite ?_ ?_)
   | (with_reducible refine LeO.bind ?_ (fun _ => ?_))
   | exact recensionref1_Put.mono _ _
   | exact LeO.none _
   | refine LeO.ite ?_ ?_
   | refine LeO.bind ?_ (fun _ => ?_)
set_option maxHeartbeats 8000000 in
set_option maxRecDepth 100000 in
theorem recensionref1_PutText.calls (k : Nat) (a0 : ByteArray) (r : List Int) (w : World) (h : recensionref1_PutText.f k a0 = some r) :
  Calls Try.prog 26 #[.string a0] w fun e w' => ∃ v0_ : Value, e = .returned (v0_) ∧ Kd.R (Kd.int .u8) 5 w' w.heap.size (fun _ => True) v0_ r ∧ Below w.heap.size w w' := by
 have HB := Aside0.mk (Below.refl w.heap.size w)
 have H : ((recensionref1_Put.f k (a0.size : Int)).bind fun t169 => (if t169.length + a0.size < 140737488355328 then (some (t169 ++ bytesOf a0)) else (none))) = some r := h
 clear h
 replace H := Option.bind_eq_some_iff.mp H
 obtain ⟨t169, A20, H⟩ := H
 replace H : (if t169.length + a0.size < 140737488355328 then (some (t169 ++ bytesOf a0)) else (none)) = some r := H
 have A2 := Aside0.mk A20
 clear A20
 by_cases c3 : t169.length + a0.size < 140737488355328
 ·rw [if_pos c3] at H
  have LMc3 := Aside0.mk c3
  clear c3
  obtain ⟨y172, hy172⟩ : ∃ y_ : List Int, y_ = (t169 ++ bytesOf a0) := ⟨_, rfl⟩
  replace H : (some y172) = some r := by first | (rw [hy172]; with_reducible exact H) | (have H2_ := (Option.bind_some _ _).symm.trans H; rw [hy172]; with_reducible exact H2_) | (have H2_ := (Option.bind_some _ _).symm.trans H; with_reducible exact H2_) | with_reducible exact H | (rw [hy172]; exact H) | exact H
  have Ny172 := Aside0.mk hy172
  clear hy172
  obtain rfl := Option.some.inj H
  go_enter Try.func26, Try.ntmps26
  go_wp2_with (first | ((with_reducible refine gate_callee (f := 25) rfl ?_); refine goesL_ (some 5) rfl rfl Try.func25 (by kernel_rfl) rfl #[.int .i64 (a0.size : Int)] rfl (by (try simp only [List.map_toArray, List.map_cons, List.map_nil]); first | done | rfl | (simp only [List.length_drop, List.length_take]; rfl) | (simp only [wrap64_wl, wrap64_wr]; rfl)) ?_; (with_reducible refine (recensionref1_Put.calls k (a0.size : Int) t169 _ A2.out).mono ?_); rintro e w4 ⟨v170, rfl, ho0, hb⟩; refine ⟨_, rfl, ?_⟩; have n0_ := Aside0.mk (Kd.R_lower ho0 (below_size (by repeat (first | (with_reducible first | exact HB.out | apply below_alloc | apply pw_below_drewN | apply below_drew1) | exact HB.out)))); have n1_ := Aside0.mk (below_step (by repeat (first | (with_reducible first | exact HB.out | apply below_alloc | apply pw_below_drewN | apply below_drew1) | exact HB.out)) hb); clear HB; have HO171 := n0_; have HB := n1_; clear n0_ n1_; (try clear hb); (try clear hb2); (try clear hk); (try clear hi); (try clear ho0)) | (at_builtin; refine Kd.R_append_strs (w0 := w) w.heap.size rfl (.tmp 5) _ 26 9 5 rfl Try.underlying26 Try.underlying9 info5 v170 t169 a0 (fun _ => True) rfl rfl ?aF ?aO ?aB ?aS ?aL ?_; (case aB => exact (by repeat (first | (with_reducible first | exact HB.out | apply below_alloc | apply pw_below_drewN | apply below_drew1) | exact HB.out))); (case aF => exact (fun _ _ => trivial)); (case aO => exact (by (with_reducible repeat (first | apply Kd.R_alloc | apply Kd.R_drewN | apply Kd.R_drew)); exact HO171.out)); (case aS => exact (below_size (by repeat (first | (with_reducible first | exact HB.out | apply below_alloc | apply pw_below_drewN | apply below_drew1) | exact HB.out)))); (case aL => have := LMc3.out; omega); intro v173 w5 ho hb hg hat; rw [← Ny172.out] at ho; have n0_ := Aside0.mk (hb); have n1_ := Aside0.mk (ho); clear HB; clear HO171; have HB := n0_; have HO174 := n1_; clear n0_ n1_; clear ho hb hg hat))
  go_ret
  exact ⟨_, by first | rfl | (simp [errW_none, errW_some] <;> rfl) | (simp [*, errW_none, errW_some] <;> rfl), by (with_reducible repeat (first | apply Kd.R_alloc | apply Kd.R_drewN | apply Kd.R_drew)); exact HO174.out, by repeat (first | (with_reducible first | exact HB.out | apply below_alloc | apply pw_below_drewN | apply below_drew1) | exact HB.out)⟩
 ·rw [if_neg c3] at H
  exact absurd H (by simp)

end Go.Proofs.Ytloabiheaelbnaa.PDirAll
