-- Written by myprint.py (the prover's own turn of the printer); not trusted: Lean checks it.
import Derived.Test.YteikeoeidaaiaaaPMergex0
import Derived.Test.YteikeoeidaaiaaaPMergex2
namespace Go.Proofs.Yteikeoeidaaiaaa.PMerge
open Go.RowKit Go.Proofs.YteikeoeidaaiaaaW.PrintWords Go.Proofs.YteikeoeidaaiaaaW.PrintLast Go.Proofs.YteikeoeidaaiaaaW.PrintMore
attribute [local go_sem] str_leq op_leq op_gtr op_geq max2_int min2_int max_two min_two max_three min_three max_four min_four   -- for this text's walks alone
set_option linter.unusedVariables false
set_option linter.unusedSimpArgs false

/-! ### recensionlaw9_MergeNone: function 6 -/
set_option maxHeartbeats 4000000 in
set_option maxRecDepth 100000 in
theorem none_walk (w : World) :
  Calls Try.prog 6 #[] w fun e w' => e = .returned (.bool true) ∧ Below w.heap.size w w' := by
 go_enter Try.func6, Try.ntmps6
 obtain ⟨x, hx⟩ : ∃ x, z29 = x := ⟨_, rfl⟩
 have hn := fun W => next_nil W
 rw [hx] at hn
 have HN := Aside0.mk hn
 clear hn hx
 go_wp2_with fail
 refine (add_nil z29 _).mono ?_
 rintro e w1 ⟨rfl, hb⟩
 have HB1 := Aside0.mk hb
 clear hb
 go_wp2_with fail
 refine (HN.out _).mono ?_
 rintro e w3 ⟨rfl, hb⟩
 have HB3 := Aside0.mk (below_step HB1.out hb)
 clear hb HB1
 go_wp2_with (first | ((with_reducible refine gate_dst (N := 2) rfl ?_); (try (refine gate_guard (by rfl) ?_; dsimp only)); refine box_event ?hg (N := 2) ?hd (cs := #[.int .i64 0, .int .i64 0, .string ⟨#[]⟩]) (t := 29) ?hr ?_; (case hd => rfl); (case hg => rfl); (case hr => first | (go_simp; done) | (go_simp; rfl)); intro gb hgb w12 hbox hb12; have HBL := Aside0.mk hb12; have BX := Aside0.mk hbox; have GE := Aside0.mk (show w3.heap.size ≤ gb from by rw [hgb]; exact Nat.le_refl _); clear hb12 hbox hgb; have z0 : w12.cell? ⟨gb, 0, none⟩ = some (.int .i64 0) := (blk_cell BX.out 0).trans rfl; have z1 : w12.cell? ⟨gb, 1, none⟩ = some (.int .i64 0) := (blk_cell BX.out 1).trans rfl; have z2 : w12.cell? ⟨gb, 2, none⟩ = some (.string ⟨#[]⟩) := (blk_cell BX.out 2).trans rfl; have f0 := blk_frozen BX.out 0; have f1 := blk_frozen BX.out 1; have f2 := blk_frozen BX.out 2) | ((with_reducible refine gate_store (t := 29) (p := 2) rfl ?_); refine store_event (t := 29) (p := 2) (v := ?vo_w14_2) (w1 := (((w12.setCell ⟨gb, 0, none⟩ (.int .i64 x.f0)).setCell ⟨gb, 1, none⟩ (.int .i64 x.f1)).setCell ⟨gb, 2, none⟩ (.string x.f2))) ?hg ?ho ?hn ?hr ?_; (case ho => rfl); (case hg => rfl); (case hn => rfl); (case hr => first | (go_simp; done) | (go_simp; rfl)); intro w14 hw; have BX2 := Aside0.mk (show w14.heap[gb]? = some (.cells #[.int .i64 x.f0, .int .i64 x.f1, .string x.f2] 29 (0, 0)) from by rw [hw]; exact blk_put (cs := #[.int .i64 x.f0, .int .i64 x.f1, .string ⟨#[]⟩]) (blk_put (cs := #[.int .i64 x.f0, .int .i64 0, .string ⟨#[]⟩]) (blk_put BX.out 0 (.int .i64 x.f0) rfl) 1 (.int .i64 x.f1) rfl) 2 (.string x.f2) rfl); have HBL2 := Aside0.mk (show Below w3.heap.size w3 w14 from by rw [hw]; exact below_set3 HBL.out GE.out 0 1 2 _ _ _); clear hw z0 z1 z2 f0 f1 f2 BX HBL; have y0 : w14.cell? ⟨gb, 0, none⟩ = some (.int .i64 x.f0) := (blk_cell BX2.out 0).trans rfl; have y1 : w14.cell? ⟨gb, 1, none⟩ = some (.int .i64 x.f1) := (blk_cell BX2.out 1).trans rfl; have y2 : w14.cell? ⟨gb, 2, none⟩ = some (.string x.f2) := (blk_cell BX2.out 2).trans rfl))
 refine (all_c 10 none 0 [] [] [] [] true _ (Kd.R_reads' (Kd.R_nil (Kd.slice 29 k29) 22 _ 0 (fun _ => True))).2.2 (Nat.le_refl _) (by simp) rfl rfl rfl (by simp) (by simp) (by kernel_rfl)).mono ?_
 rintro e w4 ⟨v4, rfl, ho, hb⟩
 rw [if_pos rfl] at ho
 have HB4 := Aside0.mk (below_step (HB3.out.trans (HBL2.out.mono HB3.out.size)) hb)
 obtain ⟨A4, c4, rfl⟩ := Kd.R_slice ho
 clear ho hb HBL2 HB3
 go_wp2_with fail
 refine (begun_c _).mono ?_
 rintro e w5 ⟨rfl, hb⟩
 have HB5 := Aside0.mk (below_step HB4.out hb)
 clear hb HB4
 go_wp2_with (first | (go_at_call 13; refine (len_nil _).mono ?_; rintro e w7 ⟨rfl, rfl⟩))
 go_ret
 exact ⟨rfl, HB5.out⟩
def recensionlaw9_MergeNone.f (_ : Nat) : Option Bool := some true
theorem recensionlaw9_MergeNone.calls (k : Nat) (r : Bool) (w : World) (hrt : Aside0 (r = true)) (h : recensionlaw9_MergeNone.f k = some r) :
  Calls Try.prog 6 #[] w fun e w' => e = .returned (.bool r) ∧ Below w.heap.size w w' := by
 obtain rfl := hrt.out
 exact none_walk w

/-- THE ONE PURE STATEMENT of recensionlaw9_MergeNone: yours. -/
def recensionlaw9_MergeNone.Pure : Prop := ∃ k, recensionlaw9_MergeNone.f k  = some true
theorem recensionlaw9_MergeNone.walk (P : recensionlaw9_MergeNone.Pure)  (w : World)  :
  Calls Try.prog 6 #[] w fun e w' => e = .returned (.bool true) ∧ Below w.heap.size w w' := by
 obtain ⟨k, h⟩ := P  
 refine (recensionlaw9_MergeNone.calls k  true w  ⟨rfl⟩ h).mono ?_
 rintro e w' ⟨rfl, hd⟩
 exact ⟨rfl, hd⟩
end Go.Proofs.Yteikeoeidaaiaaa.PMerge
