-- Written by myprint.py (the prover's own turn of the printer); not trusted: Lean checks it.
import Derived.Test.YthjbcpakpfdkaaaPStackx0
import Derived.Test.YthjbcpakpfdkaaaPStackx2
import Derived.Test.YthjbcpakpfdkaaaPStackx4
import Derived.Test.YthjbcpakpfdkaaaPStackx5
import Derived.Test.YthjbcpakpfdkaaaPStackx7
import Derived.Test.YthjbcpakpfdkaaaPStackx8
namespace Go.Proofs.Ythjbcpakpfdkaaa.PStack
open Go.RowKit Go.Proofs.YthjbcpakpfdkaaaW.PrintWords Go.Proofs.YthjbcpakpfdkaaaW.PrintLast Go.Proofs.YthjbcpakpfdkaaaW.PrintMore
attribute [local go_sem] str_leq op_leq op_gtr op_geq max2_int min2_int max_two min_two max_three min_three max_four min_four   -- for this text's walks alone
set_option linter.unusedVariables false
set_option linter.unusedSimpArgs false

/-! ### recensionlaw25_StackAll: function 3 -/
theorem info37 : (Try.prog.info? 37).map (fun i => (i.zero, i.size, i.bytes)) = some (some (.slice none 0 0), 1, 24) := by kernel_rfl
theorem nil_below {W w1 : World} (hg : W.grownBy w1 (Value.slice none 0 0).ownBlock) : Below W.heap.size W w1 := (Below.refl W.heap.size W).grown hg (Nat.le_refl _) (fun k hk => by simp [Value.ownBlock] at hk)
theorem nil_fresh {W : World} {v : Value} (hat : v.ownBlock = (Value.slice none 0 0).ownBlock ∨ ∃ b, v.ownBlock = some b ∧ W.heap.size ≤ b) : ∀ k, v.ownBlock = some k → W.heap.size ≤ k := by
 intro k hk
 rcases hat with h | ⟨b, h, h2⟩
 ·rw [h] at hk; simp [Value.ownBlock] at hk
 ·rw [h] at hk; injection hk with hk; omega
theorem grown_fresh {n : Nat} {W : World} {v u : Value} (hv : ∀ k, v.ownBlock = some k → n ≤ k) (hs : n ≤ W.heap.size) (hat : u.ownBlock = v.ownBlock ∨ ∃ b, u.ownBlock = some b ∧ W.heap.size ≤ b) : ∀ k, u.ownBlock = some k → n ≤ k := by
 intro k hk
 rcases hat with e | ⟨b, e, h2⟩
 ·rw [e] at hk; exact hv k hk
 ·rw [e] at hk; injection hk with hk; omega
set_option maxHeartbeats 4000000 in
set_option maxRecDepth 100000 in
theorem rredo_no (P : Nat → Prop) (base g : Nat) (U : List (List S56)) (W : World) (h : St 29 37 P base W g U []) :
  Calls Try.prog 20 #[.pointer (some ⟨g, 0, none⟩)] W fun e W' => e = .returned (.tuple #[.slice none 0 0, .bool false]) ∧ W = W' := by
 obtain ⟨hg, hPg, vu, vr, hb, hu, hr⟩ := h
 obtain ⟨Ar, cr, rfl, hcr⟩ := Kd.Q_slice hr
 have c1 : W.cell? ⟨g, 1, none⟩ = some (.slice Ar 0 cr) := (blk_cell hb 1).trans rfl
 clear hb hu hr hcr
 go_enter Try.func20, Try.ntmps20
 go_wp2_with fail
 go_ret2
 exact ⟨rfl, rfl⟩
set_option maxHeartbeats 4000000 in
set_option maxRecDepth 100000 in
theorem rredo_yes (P : Nat → Prop) (base g : Nat) (U R : List (List S56)) (x : List S56) (W : World) (h : St 29 37 P base W g U (x :: R)) (hbase : base ≤ W.heap.size) (hU : U.length ≤ 1000) (hRl : R.length ≤ 1000) (hxl : x.length ≤ 1000) :
  Calls Try.prog 20 #[.pointer (some ⟨g, 0, none⟩)] W fun e W' => ∃ v, e = .returned (.tuple #[v, .bool true]) ∧ Kd.R k56 56 W' base P v x ∧ St 29 37 (fun k => P k ∨ W.heap.size ≤ k) base W' g (U ++ [x]) R ∧ Below base W W' ∧ Kp W W' P := by
 obtain ⟨hg, hPg, vu, vr, hb, hu, hr⟩ := h
 obtain ⟨Au, cu, rfl, hcu⟩ := Kd.Q_slice hu
 obtain ⟨Ar, cr, rfl, hcr⟩ := Kd.Q_slice hr
 obtain ⟨ad, Ax, cx, rfl, hcx, hRx⟩ := Q_at hr 0 (by simp) x (by simp)
 have hcx0 : W.cell? ad = some (.slice Ax x.length cx) := by rwa [addr_zero] at hcx
 clear hcx
 obtain ⟨n, hn⟩ : ∃ n, (x :: R).length = n := ⟨_, rfl⟩
 have hn2 : R.length = n - 1 := by rw [← hn]; simp
 have n1 : 1 ≤ n := by rw [← hn]; simp
 have n2 : n ≤ 1001 := by rw [← hn]; simp; omega
 rw [hn] at hb hu hcr hr hRx
 have t0 : (n == 0) = false := by simp; omega
 have t1 : ((n : Int) == 0) = false := by simp; omega
 have t2 : (0 < n) = True := eq_true (by omega)
 have t3 : (1 ≤ n) = True := eq_true (by omega)
 by_cases hcr1 : cr = 1
 ·have HAV := Aside0.mk (show (if cr = 1 then some ad else some (ad.add 1)) = some ad from if_pos hcr1)
  have hq := eq_true hcr1
  clear hcr1
  have HN := Aside0.mk hn
  have HN2 := Aside0.mk hn2
  have BK := Aside0.mk hb
  have HU := Aside0.mk (Kd.Q_mono (Kd.Q_bound hu) (ok' := fun k => (P k ∧ k < W.heap.size) ∧ some k ≠ (Value.slice (some ad) n cr).ownBlock) (fun k hk => ⟨⟨hk.1.1, hk.2.2.1⟩, hk.1.2⟩))
  have HR := Aside0.mk (Kd.Q_mono (Kd.Q_bound hr) (ok' := fun k => (P k ∧ k < W.heap.size) ∧ some k ≠ (Value.slice Au U.length cu).ownBlock) (fun k hk => ⟨⟨hk.1.1, hk.2.2.1⟩, hk.1.2⟩))
  have HX := Aside0.mk (Kd.R_mono (Kd.R_bound hRx) (ok' := fun k => P k ∧ k < W.heap.size) (fun k hk => ⟨hk.1.1.1, hk.2.2.1⟩))
  have c0 : W.cell? ⟨g, 0, none⟩ = some (.slice Au U.length cu) := (blk_cell hb 0).trans rfl
  have c1 : W.cell? ⟨g, 1, none⟩ = some (.slice (some ad) n cr) := (blk_cell hb 1).trans rfl
  have gl := Aside0.mk (blk_lt hb)
  have N5G : ¬ is56 W g := not56 hb (by decide)
  have hd : Kd.Q kS 37 W base _ (.slice (if cr = 1 then some ad else some (ad.add 1)) (n - 1) (cr - 1)) ((x :: R).drop 1) := Kd.Q_drop (k := 1) HR.out (by rw [HN.out]; exact n1)
  rw [HAV.out] at hd
  have hrr := Q_readsM hd
  rw [show ((x :: R).drop 1).length = n - 1 from hn2] at hrr
  have HRR : Aside0 (ReadsRow _ kS.sz W (some ad) (n - 1) R) := Aside0.mk hrr
  clear hb hu hr hRx hn hn2 hd hrr
  go_enter Try.func20, Try.ntmps20
  go_wp2_with (first | ((with_reducible refine gate_builtin (b := .append) (xs := #[.const (.slice none 0 0), .tmp 22]) rfl ?_); (try (refine gate_guard (by rfl) ?_; dsimp only)); at_builtin; go_loud ((refine Kd.R_append_rows kS (w0 := W) base rfl (.const (.slice none 0 0)) (.tmp 22) 27 37 (.slice none 0 0) 24 rfl Try.underlying27 info37 rfl (by decide) (by decide) (.slice none 0 0) ([] : List (List S56)) R (some ad) (n - 1) (cr - 1) (fun k => (P k ∧ k < W.heap.size) ∨ W.heap.size ≤ k) (fun k => P k ∧ k < W.heap.size) rfl rfl (Kd.R_nil _ _ _ _ _) HRR.out (fun x cs h => kS.M_mono (fun k hk => hk.1.1) h) (fun k hk => ⟨.inl hk, by simp [Value.ownBlock]⟩) (fun k hk => .inr hk) (Below.refl base _) hbase (by simp; omega) ?_; intro v3 w3 ho _ hg3 hat; rw [List.nil_append] at ho; obtain ⟨A3, c3, rfl⟩ := Kd.R_slice ho; have HO3 := Aside0.mk ho; have HB3 := Aside0.mk (nil_below hg3); have HF3 := Aside0.mk (nil_fresh hat); clear ho hg3 hat; have B3 := Aside0.mk (blk_below BK.out HB3.out); have o3 := blk_frozen B3.out 1; have p3 : w3.cell? ⟨g, 0, none⟩ = some (.slice Au U.length cu) := (blk_cell B3.out 0).trans rfl; have q3 : w3.cell? ⟨g, 1, none⟩ = some (.slice (some ad) n cr) := (blk_cell B3.out 1).trans rfl; have B4 := Aside0.mk (blk_put (cs' := #[.slice Au U.length cu, .slice A3 R.length c3]) B3.out 1 (.slice A3 R.length c3) rfl); have hu5 := Kd.Q_set (Kd.Q_below HU.out HB3.out) B3.out (by decide) 1 (.slice A3 R.length c3); have HUR := Aside0.mk (Q_readsM hu5); clear hu5; have HR5 := Aside0.mk (Kd.R_set (Kd.R_bound HO3.out) B3.out (by decide) 1 (.slice A3 R.length c3)); have HX5 := Aside0.mk (Kd.R_set (Kd.R_below HX.out HB3.out) B3.out (by decide) 1 (.slice A3 R.length c3)); have HB5 := Aside0.mk ((HB3.out.mono hbase).setCell (p := ⟨g, 1, none⟩) hg (.slice A3 R.length c3)); have HK5 := Aside0.mk (Kept.setCell (Kept.below (Kept.refl W (fun k => P k ∧ ¬ is56 W k)) HB3.out) (p := ⟨g, 1, none⟩) (.inl ⟨hPg, N5G⟩) (.slice A3 R.length c3)); have HS5 := Aside0.mk (show W.heap.size ≤ (w3.setCell ⟨g, 1, none⟩ (.slice A3 R.length c3)).heap.size from by rw [sz_set]; exact HB3.out.size); have HF5 := Aside0.mk (fun k (hk : (Value.slice A3 R.length c3).ownBlock = some k) => And.intro (HF3.out k hk) (show k < (w3.setCell ⟨g, 1, none⟩ (.slice A3 R.length c3)).heap.size from by rw [sz_set]; exact ((Kd.R_bound HO3.out).1 k hk).2.2.1)); have HBS := Aside0.mk (Nat.le_trans hbase HS5.out)))) | ((with_reducible refine gate_builtin (b := .append) (xs := #[.const (.slice none 0 0), .tmp 30]) rfl ?_); (try (refine gate_guard (by rfl) ?_; dsimp only)); at_builtin; go_loud ((refine Kd.R_append_rows kS (w0 := (w3.setCell ⟨g, 1, none⟩ (.slice A3 R.length c3))) base rfl (.const (.slice none 0 0)) (.tmp 30) 27 37 (.slice none 0 0) 24 rfl Try.underlying27 info37 rfl (by decide) (by decide) (.slice none 0 0) ([] : List (List S56)) U Au U.length cu (fun k => (P k ∧ k < W.heap.size) ∨ (w3.setCell ⟨g, 1, none⟩ (.slice A3 R.length c3)).heap.size ≤ k) (fun k => P k ∧ k < W.heap.size) rfl rfl (Kd.R_nil _ _ _ _ _) HUR.out (fun x cs h => kS.M_mono (fun k hk => hk.1.1) h) (fun k hk => ⟨.inl hk, by simp [Value.ownBlock]⟩) (fun k hk => .inr hk) (Below.refl base _) HBS.out (by simp; omega) ?_; intro v6 w6 ho _ hg6 hat; rw [List.nil_append] at ho; obtain ⟨A6, c6, rfl⟩ := Kd.R_slice ho; have HO6 := Aside0.mk ho; have HB6 := Aside0.mk (nil_below hg6); have HF6 := Aside0.mk (nil_fresh hat); clear ho hg6 hat; have HX6 := Aside0.mk (Kd.R_below HX5.out HB6.out)))) | (at_builtin; go_loud ((refine Kd.R_append kS (w0 := w6) base rfl (.tmp 31) (.tmp 33) 27 37 (.slice none 0 0) 24 rfl Try.underlying27 info37 rfl (by decide) (by decide) (.slice A6 U.length c6) U x [.slice Ax x.length cx] (fun k => (P k ∧ k < W.heap.size) ∨ (w3.setCell ⟨g, 1, none⟩ (.slice A3 R.length c3)).heap.size ≤ k) (fun k => P k ∧ k < W.heap.size) rfl rfl ⟨_, rfl, HX6.out⟩ ?aK ?aF HO6.out ?aB ?aS ?aL ?_; (case aK => exact fun k hk => ⟨.inl hk, fun e => by have h6 := HF6.out k e.symm; have h5 := HS5.out; have := hk.2; omega⟩); (case aF => exact fun k hk => .inr (Nat.le_trans HB6.out.size hk)); (case aB => exact Below.refl base _); (case aS => exact Nat.le_trans HBS.out HB6.out.size); (case aL => omega); intro v7 w7 ho _ hg7 hat; obtain ⟨A7, c7, rfl⟩ := Kd.R_slice ho; have HO7 := Aside0.mk ho; have HB7 := Aside0.mk (HB6.out.grown hg7 HB6.out.size HF6.out); have HF7 := Aside0.mk (grown_fresh HF6.out HB6.out.size hat); obtain ⟨n7, hn7⟩ : ∃ n7, (U ++ [x]).length = n7 := ⟨_, rfl⟩; rw [hn7] at HO7 HF7 ⊢; have HN7 := Aside0.mk hn7; clear ho hg7 hat hn7; have B7 := Aside0.mk (blk_below B4.out HB7.out); have o7 := blk_frozen B7.out 0; have p7 : w7.cell? ⟨g, 0, none⟩ = some (.slice Au U.length cu) := (blk_cell B7.out 0).trans rfl))))
  go_ret2
  have B8 := blk_put (cs' := #[.slice A7 n7 c7, .slice A3 R.length c3]) B7.out 0 (.slice A7 n7 c7) rfl
  refine ⟨_, rfl, ?_, ⟨hg, .inl hPg, _, _, B8, ?_, ?_⟩, ?_, ?_⟩
  ·exact Kd.R_mono (Kd.R_set (Kd.R_below HX5.out HB7.out) B7.out (by decide) 0 _) (fun k hk => hk.1)
  ·exact Kd.Q_mono (Kd.Q_of_R (Kd.R_set HO7.out B7.out (by decide) 0 _)) (fun k hk => ⟨hk.elim (fun h => .inl h.1) (fun h => .inr (Nat.le_trans HS5.out h)), fun e => by have h5 := HF5.out k e.symm; rcases hk with h | h <;> omega⟩)
  ·exact Kd.Q_mono (Kd.Q_of_R (Kd.R_set (Kd.R_below (Kd.R_bound HR5.out) HB7.out) B7.out (by decide) 0 _)) (fun k hk => ⟨hk.1.1.elim (fun h => .inl h.1) (fun h => .inr h), fun e => by have h5 := HF7.out k e.symm; have := hk.2.2.1; omega⟩)
  ·exact (HB5.out.trans (HB7.out.mono HBS.out)).setCell (p := ⟨g, 0, none⟩) hg _
  ·exact Kept.setCell (HK5.out.below HB7.out) (p := ⟨g, 0, none⟩) (.inl ⟨hPg, N5G⟩) _
 ·have HAV := Aside0.mk (show (if cr = 1 then some ad else some (ad.add 1)) = some ⟨ad.block, ad.off + 1, none⟩ from if_neg hcr1)
  have hq := eq_false hcr1
  clear hcr1
  have HN := Aside0.mk hn
  have HN2 := Aside0.mk hn2
  have BK := Aside0.mk hb
  have HU := Aside0.mk (Kd.Q_mono (Kd.Q_bound hu) (ok' := fun k => (P k ∧ k < W.heap.size) ∧ some k ≠ (Value.slice (some ad) n cr).ownBlock) (fun k hk => ⟨⟨hk.1.1, hk.2.2.1⟩, hk.1.2⟩))
  have HR := Aside0.mk (Kd.Q_mono (Kd.Q_bound hr) (ok' := fun k => (P k ∧ k < W.heap.size) ∧ some k ≠ (Value.slice Au U.length cu).ownBlock) (fun k hk => ⟨⟨hk.1.1, hk.2.2.1⟩, hk.1.2⟩))
  have HX := Aside0.mk (Kd.R_mono (Kd.R_bound hRx) (ok' := fun k => P k ∧ k < W.heap.size) (fun k hk => ⟨hk.1.1.1, hk.2.2.1⟩))
  have c0 : W.cell? ⟨g, 0, none⟩ = some (.slice Au U.length cu) := (blk_cell hb 0).trans rfl
  have c1 : W.cell? ⟨g, 1, none⟩ = some (.slice (some ad) n cr) := (blk_cell hb 1).trans rfl
  have gl := Aside0.mk (blk_lt hb)
  have N5G : ¬ is56 W g := not56 hb (by decide)
  have hd : Kd.Q kS 37 W base _ (.slice (if cr = 1 then some ad else some (ad.add 1)) (n - 1) (cr - 1)) ((x :: R).drop 1) := Kd.Q_drop (k := 1) HR.out (by rw [HN.out]; exact n1)
  rw [HAV.out] at hd
  have hrr := Q_readsM hd
  rw [show ((x :: R).drop 1).length = n - 1 from hn2] at hrr
  have HRR : Aside0 (ReadsRow _ kS.sz W (some ⟨ad.block, ad.off + 1, none⟩) (n - 1) R) := Aside0.mk hrr
  clear hb hu hr hRx hn hn2 hd hrr
  go_enter Try.func20, Try.ntmps20
  go_wp2_with (first | ((with_reducible refine gate_builtin (b := .append) (xs := #[.const (.slice none 0 0), .tmp 22]) rfl ?_); (try (refine gate_guard (by rfl) ?_; dsimp only)); at_builtin; go_loud ((refine Kd.R_append_rows kS (w0 := W) base rfl (.const (.slice none 0 0)) (.tmp 22) 27 37 (.slice none 0 0) 24 rfl Try.underlying27 info37 rfl (by decide) (by decide) (.slice none 0 0) ([] : List (List S56)) R (some ⟨ad.block, ad.off + 1, none⟩) (n - 1) (cr - 1) (fun k => (P k ∧ k < W.heap.size) ∨ W.heap.size ≤ k) (fun k => P k ∧ k < W.heap.size) rfl rfl (Kd.R_nil _ _ _ _ _) HRR.out (fun x cs h => kS.M_mono (fun k hk => hk.1.1) h) (fun k hk => ⟨.inl hk, by simp [Value.ownBlock]⟩) (fun k hk => .inr hk) (Below.refl base _) hbase (by simp; omega) ?_; intro v3 w3 ho _ hg3 hat; rw [List.nil_append] at ho; obtain ⟨A3, c3, rfl⟩ := Kd.R_slice ho; have HO3 := Aside0.mk ho; have HB3 := Aside0.mk (nil_below hg3); have HF3 := Aside0.mk (nil_fresh hat); clear ho hg3 hat; have B3 := Aside0.mk (blk_below BK.out HB3.out); have o3 := blk_frozen B3.out 1; have p3 : w3.cell? ⟨g, 0, none⟩ = some (.slice Au U.length cu) := (blk_cell B3.out 0).trans rfl; have q3 : w3.cell? ⟨g, 1, none⟩ = some (.slice (some ad) n cr) := (blk_cell B3.out 1).trans rfl; have B4 := Aside0.mk (blk_put (cs' := #[.slice Au U.length cu, .slice A3 R.length c3]) B3.out 1 (.slice A3 R.length c3) rfl); have hu5 := Kd.Q_set (Kd.Q_below HU.out HB3.out) B3.out (by decide) 1 (.slice A3 R.length c3); have HUR := Aside0.mk (Q_readsM hu5); clear hu5; have HR5 := Aside0.mk (Kd.R_set (Kd.R_bound HO3.out) B3.out (by decide) 1 (.slice A3 R.length c3)); have HX5 := Aside0.mk (Kd.R_set (Kd.R_below HX.out HB3.out) B3.out (by decide) 1 (.slice A3 R.length c3)); have HB5 := Aside0.mk ((HB3.out.mono hbase).setCell (p := ⟨g, 1, none⟩) hg (.slice A3 R.length c3)); have HK5 := Aside0.mk (Kept.setCell (Kept.below (Kept.refl W (fun k => P k ∧ ¬ is56 W k)) HB3.out) (p := ⟨g, 1, none⟩) (.inl ⟨hPg, N5G⟩) (.slice A3 R.length c3)); have HS5 := Aside0.mk (show W.heap.size ≤ (w3.setCell ⟨g, 1, none⟩ (.slice A3 R.length c3)).heap.size from by rw [sz_set]; exact HB3.out.size); have HF5 := Aside0.mk (fun k (hk : (Value.slice A3 R.length c3).ownBlock = some k) => And.intro (HF3.out k hk) (show k < (w3.setCell ⟨g, 1, none⟩ (.slice A3 R.length c3)).heap.size from by rw [sz_set]; exact ((Kd.R_bound HO3.out).1 k hk).2.2.1)); have HBS := Aside0.mk (Nat.le_trans hbase HS5.out)))) | ((with_reducible refine gate_builtin (b := .append) (xs := #[.const (.slice none 0 0), .tmp 30]) rfl ?_); (try (refine gate_guard (by rfl) ?_; dsimp only)); at_builtin; go_loud ((refine Kd.R_append_rows kS (w0 := (w3.setCell ⟨g, 1, none⟩ (.slice A3 R.length c3))) base rfl (.const (.slice none 0 0)) (.tmp 30) 27 37 (.slice none 0 0) 24 rfl Try.underlying27 info37 rfl (by decide) (by decide) (.slice none 0 0) ([] : List (List S56)) U Au U.length cu (fun k => (P k ∧ k < W.heap.size) ∨ (w3.setCell ⟨g, 1, none⟩ (.slice A3 R.length c3)).heap.size ≤ k) (fun k => P k ∧ k < W.heap.size) rfl rfl (Kd.R_nil _ _ _ _ _) HUR.out (fun x cs h => kS.M_mono (fun k hk => hk.1.1) h) (fun k hk => ⟨.inl hk, by simp [Value.ownBlock]⟩) (fun k hk => .inr hk) (Below.refl base _) HBS.out (by simp; omega) ?_; intro v6 w6 ho _ hg6 hat; rw [List.nil_append] at ho; obtain ⟨A6, c6, rfl⟩ := Kd.R_slice ho; have HO6 := Aside0.mk ho; have HB6 := Aside0.mk (nil_below hg6); have HF6 := Aside0.mk (nil_fresh hat); clear ho hg6 hat; have HX6 := Aside0.mk (Kd.R_below HX5.out HB6.out)))) | (at_builtin; go_loud ((refine Kd.R_append kS (w0 := w6) base rfl (.tmp 31) (.tmp 33) 27 37 (.slice none 0 0) 24 rfl Try.underlying27 info37 rfl (by decide) (by decide) (.slice A6 U.length c6) U x [.slice Ax x.length cx] (fun k => (P k ∧ k < W.heap.size) ∨ (w3.setCell ⟨g, 1, none⟩ (.slice A3 R.length c3)).heap.size ≤ k) (fun k => P k ∧ k < W.heap.size) rfl rfl ⟨_, rfl, HX6.out⟩ ?aK ?aF HO6.out ?aB ?aS ?aL ?_; (case aK => exact fun k hk => ⟨.inl hk, fun e => by have h6 := HF6.out k e.symm; have h5 := HS5.out; have := hk.2; omega⟩); (case aF => exact fun k hk => .inr (Nat.le_trans HB6.out.size hk)); (case aB => exact Below.refl base _); (case aS => exact Nat.le_trans HBS.out HB6.out.size); (case aL => omega); intro v7 w7 ho _ hg7 hat; obtain ⟨A7, c7, rfl⟩ := Kd.R_slice ho; have HO7 := Aside0.mk ho; have HB7 := Aside0.mk (HB6.out.grown hg7 HB6.out.size HF6.out); have HF7 := Aside0.mk (grown_fresh HF6.out HB6.out.size hat); obtain ⟨n7, hn7⟩ : ∃ n7, (U ++ [x]).length = n7 := ⟨_, rfl⟩; rw [hn7] at HO7 HF7 ⊢; have HN7 := Aside0.mk hn7; clear ho hg7 hat hn7; have B7 := Aside0.mk (blk_below B4.out HB7.out); have o7 := blk_frozen B7.out 0; have p7 : w7.cell? ⟨g, 0, none⟩ = some (.slice Au U.length cu) := (blk_cell B7.out 0).trans rfl))))
  go_ret2
  have B8 := blk_put (cs' := #[.slice A7 n7 c7, .slice A3 R.length c3]) B7.out 0 (.slice A7 n7 c7) rfl
  refine ⟨_, rfl, ?_, ⟨hg, .inl hPg, _, _, B8, ?_, ?_⟩, ?_, ?_⟩
  ·exact Kd.R_mono (Kd.R_set (Kd.R_below HX5.out HB7.out) B7.out (by decide) 0 _) (fun k hk => hk.1)
  ·exact Kd.Q_mono (Kd.Q_of_R (Kd.R_set HO7.out B7.out (by decide) 0 _)) (fun k hk => ⟨hk.elim (fun h => .inl h.1) (fun h => .inr (Nat.le_trans HS5.out h)), fun e => by have h5 := HF5.out k e.symm; rcases hk with h | h <;> omega⟩)
  ·exact Kd.Q_mono (Kd.Q_of_R (Kd.R_set (Kd.R_below (Kd.R_bound HR5.out) HB7.out) B7.out (by decide) 0 _)) (fun k hk => ⟨hk.1.1.elim (fun h => .inl h.1) (fun h => .inr h), fun e => by have h5 := HF7.out k e.symm; have := hk.2.2.1; omega⟩)
  ·exact (HB5.out.trans (HB7.out.mono HBS.out)).setCell (p := ⟨g, 0, none⟩) hg _
  ·exact Kept.setCell (HK5.out.below HB7.out) (p := ⟨g, 0, none⟩) (.inl ⟨hPg, N5G⟩) _
set_option maxHeartbeats 4000000 in
set_option maxRecDepth 100000 in
theorem rundo_no (P : Nat → Prop) (base g : Nat) (R : List (List S56)) (W : World) (h : St 29 37 P base W g [] R) :
  Calls Try.prog 17 #[.pointer (some ⟨g, 0, none⟩)] W fun e W' => e = .returned (.tuple #[.slice none 0 0, .bool false]) ∧ W = W' := by
 obtain ⟨hg, hPg, vu, vr, hb, hu, hr⟩ := h
 obtain ⟨Au, cu, rfl, hcu⟩ := Kd.Q_slice hu
 have c0 : W.cell? ⟨g, 0, none⟩ = some (.slice Au 0 cu) := (blk_cell hb 0).trans rfl
 clear hb hu hr hcu
 go_enter Try.func17, Try.ntmps17
 go_wp2_with fail
 go_ret2
 exact ⟨rfl, rfl⟩
theorem reads_init {α : Type} {Rr : α → List Value → Prop} {s n : Nat} {w : World} {A : Option Addr} {U : List α} {x : α} (h : ReadsRow Rr s w A n (U ++ [x])) : ReadsRow Rr s w A (n - 1) U := by
 obtain ⟨h1, h2, h3⟩ := h
 refine ⟨by rw [← h1]; simp, by omega, fun hp => ?_⟩
 obtain ⟨ad, ha, hc⟩ := h3 (by omega)
 exact ⟨ad, ha, fun j p hj => hc j p (by rw [List.getElem?_append_left (List.getElem?_eq_some_iff.1 hj).1]; exact hj)⟩
theorem Q_readsD {e : Nat} {w : World} {base : Nat} {ok : Nat → Prop} {A : Option Addr} {n c : Nat} {U : List (List S56)} {x : List S56} (h : Kd.Q kS e w base ok (.slice A n c) (U ++ [x])) (hn : U.length = n - 1) : ReadsRow (kS.M w base (fun k => ok k ∧ some k ≠ (Value.slice A n c).ownBlock)) kS.sz w A (n - 1) U := by
 have h1 := reads_init (Q_readsM h)
 rw [show (U ++ [x]).length - 1 = n - 1 by simp; omega] at h1
 exact h1
set_option maxHeartbeats 4000000 in
set_option maxRecDepth 100000 in
theorem rundo_yes (P : Nat → Prop) (base g : Nat) (U R : List (List S56)) (x : List S56) (W : World) (h : St 29 37 P base W g (U ++ [x]) R) (hbase : base ≤ W.heap.size) (hU : U.length ≤ 1000) (hRl : R.length ≤ 1000) (hxl : x.length ≤ 1000) :
  Calls Try.prog 17 #[.pointer (some ⟨g, 0, none⟩)] W fun e W' => ∃ v, e = .returned (.tuple #[v, .bool true]) ∧ Kd.R k56 56 W' base P v x ∧ St 29 37 (fun k => P k ∨ W.heap.size ≤ k) base W' g U (x :: R) ∧ Below base W W' ∧ Kp W W' P := by
 obtain ⟨hg, hPg, vu, vr, hb, hu, hr⟩ := h
 obtain ⟨Au, cu, rfl, hcu⟩ := Kd.Q_slice hu
 obtain ⟨Ar, cr, rfl, hcr⟩ := Kd.Q_slice hr
 obtain ⟨ad, Ax, cx, rfl, hcx, hRx⟩ := Q_at hu U.length (by simp) x (by simp)
 obtain ⟨n, hn⟩ : ∃ n, (U ++ [x]).length = n := ⟨_, rfl⟩
 have hn2 : U.length = n - 1 := by rw [← hn]; simp
 have n1 : 1 ≤ n := by rw [← hn]; simp
 have n2 : n ≤ 1001 := by rw [← hn]; simp; omega
 rw [hn] at hb hu hcu hr hRx
 rw [hn2] at hcx
 have t0 : (n == 0) = false := by simp; omega
 have t1 : ((n : Int) == 0) = false := by simp; omega
 have t2 : IntKind.i64.wrap ((n : Int) - 1) = (n : Int) - 1 := IntWalk.i64_in _ (by omega)
 have t3 : ((n : Int) - 1).toNat = n - 1 := by omega
 have t4 : (1 ≤ (n : Int)) = True := eq_true (by omega)
 have t5 : ((n : Int) - 1 ≤ (cu : Int)) = True := eq_true (by omega)
 have HQ := Aside0.mk (Kd.Q_mono (Kd.Q_bound hu) (ok' := fun k => (P k ∧ k < W.heap.size) ∧ some k ≠ (Value.slice Ar R.length cr).ownBlock) (fun k hk => ⟨⟨hk.1.1, hk.2.2.1⟩, hk.1.2⟩))
 have HN := Aside0.mk hn
 have HN2 := Aside0.mk hn2
 have BK := Aside0.mk hb
 have HR := Aside0.mk (Kd.Q_mono (Kd.Q_bound hr) (ok' := fun k => (P k ∧ k < W.heap.size) ∧ some k ≠ (Value.slice (some ad) n cu).ownBlock) (fun k hk => ⟨⟨hk.1.1, hk.2.2.1⟩, hk.1.2⟩))
 have HX := Aside0.mk (Kd.R_mono (Kd.R_bound hRx) (ok' := fun k => P k ∧ k < W.heap.size) (fun k hk => ⟨hk.1.1.1, hk.2.2.1⟩))
 have c0 : W.cell? ⟨g, 0, none⟩ = some (.slice (some ad) n cu) := (blk_cell hb 0).trans rfl
 have c1 : W.cell? ⟨g, 1, none⟩ = some (.slice Ar R.length cr) := (blk_cell hb 1).trans rfl
 have gl := Aside0.mk (blk_lt hb)
 have N5G : ¬ is56 W g := not56 hb (by decide)
 clear hb hu hr hRx hn hn2
 go_enter Try.func17, Try.ntmps17
 go_wp2_with fail
 go_quiet (fail)
 go_wp2_with fail
 refine start_ (n := 16) (S := fun w' => w'.cell? ⟨g, 0, none⟩ = some (.slice (some ad) n cu)) (ds := [15]) #[false, false, false, false, false, false, false, false, false, false, false, false, false, false, false, false] (by kernel_rfl) rfl rfl ((blk_cell (blk_drew (blk_drewN BK.out nq)) 0).trans rfl) (fun hHeld => ?_)
 have BK2 := Aside0.mk (blk_drew (blk_drewN BK.out nq))
 have HRR2 := Aside0.mk (Q_readsD (Kd.Q_drew (Kd.Q_drewN HQ.out nq)) HN2.out)
 have HB2 := Aside0.mk (below_drew1 (pw_below_drewN (Below.refl W.heap.size W) nq))
 generalize (W.drewN nq).drew = W2 at BK2 HRR2 HB2 hHeld ⊢
 refine pure_ (i := 0) (N := some 23) (v := ?_) (a' := ?_) #[true, false, false, false, false, false, false, false, false, false, false, false, false, false, false, false] rfl rfl (by kernel_rfl) (fun _ _ _ h => h) (Or.inl ⟨by rfl, ?_⟩) ?_ ?_
 rotate_left
 ·intro w'
  go_simp
  with_reducible rfl
 rotate_left
 ·simp only [Act.put, List.setIfInBounds_toArray, List.set_cons_zero, List.set_cons_succ, i64_w, i32_w]
  rfl
 refine pure_ (i := 1) (N := some 24) (v := ?_) (a' := ?_) #[true, true, false, false, false, false, false, false, false, false, false, false, false, false, false, false] rfl rfl (by kernel_rfl) (fun _ _ _ h => h) (Or.inl ⟨by rfl, ?_⟩) ?_ ?_
 rotate_left
 ·intro w'
  go_simp
  with_reducible rfl
 rotate_left
 ·simp only [Act.put, List.setIfInBounds_toArray, List.set_cons_zero, List.set_cons_succ, i64_w, i32_w]
  rfl
 refine pure_ (i := 2) (N := some 25) (v := ?_) (a' := ?_) #[true, true, true, false, false, false, false, false, false, false, false, false, false, false, false, false] rfl rfl (by kernel_rfl) (fun _ _ _ h => h) (Or.inl ⟨by rfl, ?_⟩) ?_ ?_
 rotate_left
 ·intro w'
  go_simp
  with_reducible rfl
 rotate_left
 ·simp only [Act.put, List.setIfInBounds_toArray, List.set_cons_zero, List.set_cons_succ, i64_w, i32_w]
  rfl
 refine pure_ (i := 3) (N := some 26) (v := ?_) (a' := ?_) #[true, true, true, true, false, false, false, false, false, false, false, false, false, false, false, false] rfl rfl (by kernel_rfl) (fun _ _ _ h => h) (Or.inl ⟨by rfl, ?_⟩) ?_ ?_
 rotate_left
 ·intro w'
  go_simp
  with_reducible rfl
 rotate_left
 ·simp only [Act.put, List.setIfInBounds_toArray, List.set_cons_zero, List.set_cons_succ, i64_w, i32_w]
  rfl
 refine pure_ (i := 5) (N := some 28) (v := ?_) (a' := ?_) #[true, true, true, true, false, true, false, false, false, false, false, false, false, false, false, false] rfl rfl (by kernel_rfl) (fun _ _ _ h => h) (Or.inl ⟨by rfl, ?_⟩) ?_ ?_
 rotate_left
 ·intro w'
  go_simp
  with_reducible rfl
 rotate_left
 ·simp only [Act.put, List.setIfInBounds_toArray, List.set_cons_zero, List.set_cons_succ, i64_w, i32_w]
  rfl
 refine pure_ (i := 6) (N := some 29) (v := ?_) (a' := ?_) #[true, true, true, true, false, true, true, false, false, false, false, false, false, false, false, false] rfl rfl (by kernel_rfl) (fun _ _ _ h => h) (Or.inl ⟨by rfl, ?_⟩) ?_ ?_
 rotate_left
 ·intro w'
  go_simp
  with_reducible rfl
 rotate_left
 ·simp only [Act.put, List.setIfInBounds_toArray, List.set_cons_zero, List.set_cons_succ, i64_w, i32_w]
  rfl
 refine pure_ (i := 7) (N := some 30) (v := ?_) (a' := ?_) #[true, true, true, true, false, true, true, true, false, false, false, false, false, false, false, false] rfl rfl (by kernel_rfl) (fun _ _ _ h => h) (Or.inl ⟨by rfl, ?_⟩) ?_ ?_
 rotate_left
 ·intro w'
  go_simp
  with_reducible rfl
 rotate_left
 ·simp only [Act.put, List.setIfInBounds_toArray, List.set_cons_zero, List.set_cons_succ, i64_w, i32_w]
  rfl
 refine take_ (i := 4) (N := some 27) (v := ?_) (a' := ?_) #[true, true, true, true, true, true, true, true, false, false, false, false, false, false, false, false] rfl rfl (by kernel_rfl) (fun _ _ _ h => h) (Or.inl ⟨by rfl, ?_⟩) hHeld ?_ ?_
 rotate_left
 ·intro w' s0
  go_simp
  with_reducible rfl
 rotate_left
 ·simp only [Act.put, List.setIfInBounds_toArray, List.set_cons_zero, List.set_cons_succ, i64_w, i32_w]
  rfl
 refine take_ (i := 8) (N := some 31) (v := ?_) (a' := ?_) #[true, true, true, true, true, true, true, true, true, false, false, false, false, false, false, false] rfl rfl (by kernel_rfl) (fun _ _ _ h => h) (Or.inl ⟨by rfl, ?_⟩) hHeld ?_ ?_
 rotate_left
 ·intro w' s0
  go_simp
  with_reducible rfl
 rotate_left
 ·simp only [Act.put, List.setIfInBounds_toArray, List.set_cons_zero, List.set_cons_succ, i64_w, i32_w]
  rfl
 refine pure_ (i := 9) (N := some 32) (v := ?_) (a' := ?_) #[true, true, true, true, true, true, true, true, true, true, false, false, false, false, false, false] rfl rfl (by kernel_rfl) (fun _ _ _ h => h) (Or.inl ⟨by rfl, ?_⟩) ?_ ?_
 rotate_left
 ·intro w'
  go_simp
  with_reducible rfl
 rotate_left
 ·simp only [Act.put, List.setIfInBounds_toArray, List.set_cons_zero, List.set_cons_succ, i64_w, i32_w]
  rfl
 refine pure_ (i := 10) (N := some 33) (v := ?_) (a' := ?_) #[true, true, true, true, true, true, true, true, true, true, true, false, false, false, false, false] rfl rfl (by kernel_rfl) (fun _ _ _ h => h) (Or.inl ⟨by rfl, ?_⟩) ?_ ?_
 rotate_left
 ·intro w'
  go_simp
  with_reducible rfl
 rotate_left
 ·simp only [Act.put, List.setIfInBounds_toArray, List.set_cons_zero, List.set_cons_succ, i64_w, i32_w]
  rfl
 refine pure_ (i := 11) (N := some 34) (v := ?_) (a' := ?_) #[true, true, true, true, true, true, true, true, true, true, true, true, false, false, false, false] rfl rfl (by kernel_rfl) (fun _ _ _ h => h) (Or.inl ⟨by rfl, ?_⟩) ?_ ?_
 rotate_left
 ·intro w'
  go_simp
  with_reducible rfl
 rotate_left
 ·simp only [Act.put, List.setIfInBounds_toArray, List.set_cons_zero, List.set_cons_succ, i64_w, i32_w]
  rfl
 refine one_ (i := 12) (N := some 35) #[true, true, true, true, true, true, true, true, true, true, true, true, true, false, false, false] rfl rfl (by kernel_rfl) (by decide) (fun K hK => ?_)
 refine Kd.R_append_rows_step kS (w0 := W2) base (by rfl) (.const (.slice none 0 0)) (.tmp 34) 27 37 (.slice none 0 0) 24 rfl Try.underlying27 info37 rfl (by decide) (by decide) (.slice none 0 0) ([] : List (List S56)) U (some ad) (n - 1) cu (fun k => (P k ∧ k < W.heap.size) ∨ W.heap.size ≤ k) (fun k => P k ∧ k < W.heap.size) rfl rfl (Kd.R_nil _ _ _ _ _) HRR2.out (fun x cs h => kS.M_mono (fun k hk => hk.1.1) h) (fun k hk => ⟨.inl hk, by simp [Value.ownBlock]⟩) (fun k hk => .inr (Nat.le_trans HB2.out.size hk)) (Below.refl base _) (Nat.le_trans hbase HB2.out.size) (by simp; omega) ?_
 intro v3 w3 ho _ hg3 hat
 rw [List.nil_append] at ho
 obtain ⟨A3, c3, rfl⟩ := Kd.R_slice ho
 have HO3 := Aside0.mk ho
 have HB3 := Aside0.mk (HB2.out.trans ((nil_below hg3).mono HB2.out.size))
 have HF3 := Aside0.mk (fun k hk => Nat.le_trans HB2.out.size (nil_fresh hat k hk))
 clear ho hg3 hat
 have B3 := Aside0.mk (blk_below BK.out HB3.out)
 have o3 := blk_frozen B3.out 0
 have p3 : w3.cell? ⟨g, 0, none⟩ = some (.slice (some ad) n cu) := (blk_cell B3.out 0).trans rfl
 have B4 := Aside0.mk (blk_put (cs' := #[.slice A3 U.length c3, .slice Ar R.length cr]) B3.out 0 (.slice A3 U.length c3) rfl)
 have p4 : ∀ o, ((w3.setCell ⟨g, 0, none⟩ (.slice A3 U.length c3)).alloc o).cell? ⟨g, 1, none⟩ = some (.slice Ar R.length cr) := fun o => (blk_cell (blk_alloc B4.out o) 1).trans rfl
 have hr5 := Kd.Q_set (Kd.Q_below HR.out HB3.out) B3.out (by decide) 0 (.slice A3 U.length c3)
 have HRA := Aside0.mk (fun o => Q_readsM (Kd.Q_alloc hr5 o))
 clear hr5
 have HU5 := Aside0.mk (Kd.R_set (Kd.R_bound HO3.out) B3.out (by decide) 0 (.slice A3 U.length c3))
 have HX5 := Aside0.mk (Kd.R_set (Kd.R_below HX.out HB3.out) B3.out (by decide) 0 (.slice A3 U.length c3))
 have HB5 := Aside0.mk ((HB3.out.mono hbase).setCell (p := ⟨g, 0, none⟩) hg (.slice A3 U.length c3))
 have HK5 := Aside0.mk (Kept.setCell (Kept.below (Kept.refl W (fun k => P k ∧ ¬ is56 W k)) HB3.out) (p := ⟨g, 0, none⟩) (.inl ⟨hPg, N5G⟩) (.slice A3 U.length c3))
 have HS5 := Aside0.mk HB3.out.size
 have HF5 := Aside0.mk (fun k (hk : (Value.slice A3 U.length c3).ownBlock = some k) => And.intro (HF3.out k hk) ((Kd.R_bound HO3.out).1 k hk).2.2.1)
 have HBS := Aside0.mk (Nat.le_trans hbase HS5.out)
 refine hK.out _ _ (p3) (fun hHeld => ?_)
 clear hK K
 refine norm_ (a' := ?_) ?_ ?_
 rotate_left
 ·show Act.put _ (some 35) _ = _
  simp only [Act.put, List.setIfInBounds_toArray, List.set_cons_zero, List.set_cons_succ, i64_w, i32_w]
  rfl
 refine pure_ (i := 13) (N := some 36) (v := ?_) (a' := ?_) #[true, true, true, true, true, true, true, true, true, true, true, true, true, true, false, false] rfl rfl (by kernel_rfl) (fun _ _ _ h => h) (Or.inl ⟨by rfl, ?_⟩) ?_ ?_
 rotate_left
 ·intro w'
  go_simp
  with_reducible rfl
 rotate_left
 ·simp only [Act.put, List.setIfInBounds_toArray, List.set_cons_zero, List.set_cons_succ, i64_w, i32_w]
  rfl
 refine pure_ (i := 14) (N := some 37) (v := ?_) (a' := ?_) #[true, true, true, true, true, true, true, true, true, true, true, true, true, true, true, false] rfl rfl (by kernel_rfl) (fun _ _ _ h => h) (Or.inl ⟨by rfl, ?_⟩) ?_ ?_
 rotate_left
 ·intro w'
  go_simp
  with_reducible rfl
 rotate_left
 ·simp only [Act.put, List.setIfInBounds_toArray, List.set_cons_zero, List.set_cons_succ, i64_w, i32_w]
  rfl
 refine last_ (i := 15) (N := none) #[true, true, true, true, true, true, true, true, true, true, true, true, true, true, true, true] rfl rfl (by kernel_rfl) (by decide) (fun K hK => ?_)
 refine skip_ (w1 := ?_) ?_ ?_ ?_ ?_
 rotate_left
 ·rfl
 ·rfl
 ·go_simp
  rfl
 refine hK.out _ _ ?_
 clear hK K
 refine done_ (by kernel_rfl) ?_
 go_wp2_with (at_builtin; go_loud ((refine Kd.R_append_rows kS (w0 := (w3.setCell ⟨g, 0, none⟩ (.slice A3 U.length c3))) base rfl (.tmp 40) (.tmp 44) 27 37 (.slice none 0 0) 24 rfl Try.underlying27 info37 rfl (by decide) (by decide) (.slice (some ⟨w3.heap.size, 0, none⟩) 1 1) [x] R Ar R.length cr (fun k => (P k ∧ k < W.heap.size) ∨ w3.heap.size ≤ k) (fun k => P k ∧ k < W.heap.size) rfl rfl ?aO (HRA.out _) (fun x cs h => kS.M_mono (fun k hk => hk.1.1) h) (fun k hk => ⟨.inl hk, own_old (Nat.lt_of_lt_of_le hk.2 HS5.out)⟩) ?aF ?aB ?aS ?aL ?_; (case aO => exact R_one (d := kS) (p := x) (cs := [.slice Ax x.length cx]) (okx := fun k => P k ∧ k < W.heap.size) (W := (w3.setCell ⟨g, 0, none⟩ (.slice A3 U.length c3))) (by rw [sz_set]; exact HBS.out) ⟨_, rfl, HX5.out⟩ (fun k hk => ⟨.inl hk, by rw [sz_set]; exact Nat.lt_of_lt_of_le hk.2 HS5.out⟩) (.inr (by rw [sz_set]; exact Nat.le_refl _)) _ (sz_set _ _ _)); (case aF => intro k hk; rw [World.size_alloc, sz_set] at hk; exact .inr (by omega)); (case aB => exact (Below.refl base _).alloc (by rw [sz_set]; exact HBS.out) _); (case aS => rw [World.size_alloc, sz_set]; have := HBS.out; omega); (case aL => simp; omega); intro v7 w7 ho _ hg7 hat; obtain ⟨A7, c7, rfl⟩ := Kd.R_slice ho; have HO7 := Aside0.mk ho; have HB7 := Aside0.mk ((below_alloc (Below.refl ((w3.setCell ⟨g, 0, none⟩ (.slice A3 U.length c3))).heap.size (w3.setCell ⟨g, 0, none⟩ (.slice A3 U.length c3))) _).grown hg7 (by simp) (fun k hk => by simp [Value.ownBlock] at hk; rw [sz_set]; omega)); have HF7 := Aside0.mk (grown_fresh (n := w3.heap.size) (fun k hk => by simp [Value.ownBlock] at hk; omega) (by rw [World.size_alloc, sz_set]; omega) hat); obtain ⟨n7, hn7⟩ : ∃ n7, ([x] ++ R).length = n7 := ⟨_, rfl⟩; rw [hn7] at HO7 HF7 ⊢; have HN7 := Aside0.mk hn7; clear ho hg7 hat hn7; have B7 := Aside0.mk (blk_below B4.out HB7.out); have o7 := blk_frozen B7.out 1; have p7 : w7.cell? ⟨g, 1, none⟩ = some (.slice Ar R.length cr) := (blk_cell B7.out 1).trans rfl)))
 go_ret2
 have B8 := blk_put (cs' := #[.slice A3 U.length c3, .slice A7 n7 c7]) B7.out 1 (.slice A7 n7 c7) rfl
 refine ⟨_, rfl, ?_, ⟨hg, .inl hPg, _, _, B8, ?_, ?_⟩, ?_, ?_⟩
 ·exact Kd.R_mono (Kd.R_set (Kd.R_below HX5.out HB7.out) B7.out (by decide) 1 _) (fun k hk => hk.1)
 ·exact Kd.Q_mono (Kd.Q_of_R (Kd.R_set (Kd.R_below (Kd.R_bound HU5.out) HB7.out) B7.out (by decide) 1 _)) (fun k hk => ⟨hk.1.1.elim (fun h => .inl h.1) (fun h => .inr h), fun e => by have h5 := HF7.out k e.symm; have := hk.2.2.1; rw [sz_set] at this; omega⟩)
 ·exact Kd.Q_mono (Kd.Q_of_R (Kd.R_set HO7.out B7.out (by decide) 1 _)) (fun k hk => ⟨hk.elim (fun h => .inl h.1) (fun h => .inr (Nat.le_trans HS5.out h)), fun e => by have h5 := HF5.out k e.symm; rcases hk with h | h <;> omega⟩)
 ·exact (HB5.out.trans (HB7.out.mono (by rw [sz_set]; exact HBS.out))).setCell (p := ⟨g, 1, none⟩) hg _
 ·exact Kept.setCell (HK5.out.below HB7.out) (p := ⟨g, 1, none⟩) (.inl ⟨hPg, N5G⟩) _
set_option maxHeartbeats 4000000 in
set_option maxRecDepth 100000 in
theorem rpush_no (k : Nat) (g : Nat) (A : Option Addr) (c : Nat) (x : List S56) (W : World) (hx : Kd.C k56 W A x.length x) (hc : x.length ≤ c) (hM : recensionref25_May.f k x = some false) :
  Calls Try.prog 15 #[.pointer (some ⟨g, 0, none⟩), .slice A x.length c] W fun e W' => e = .returned (.bool false) ∧ Below W.heap.size W W' := by
 have HX := Aside0.mk hx
 have HM := Aside0.mk hM
 have HC := Aside0.mk hc
 clear hx hM hc
 go_enter Try.func15, Try.ntmps15
 go_wp2_with fail
 refine (recensionref25_May.calls k A c x false _ HX.out HC.out HM.out).mono ?_
 rintro e w1 ⟨rfl, hb1⟩
 go_wp2_with fail
 go_ret
 exact ⟨rfl, hb1⟩
set_option maxHeartbeats 4000000 in
set_option maxRecDepth 100000 in
theorem rpush_yes (k : Nat) (P : Nat → Prop) (base g : Nat) (U R : List (List S56)) (Ax : Option Addr) (cx : Nat) (x : List S56) (W : World) (h : St 29 37 P base W g U R) (hbase : base ≤ W.heap.size) (hx : Kd.R k56 56 W base P (.slice Ax x.length cx) x) (hM : recensionref25_May.f k x = some true) (hxl : x.length ≤ 1000) (hU : U.length ≤ 4) :
  Calls Try.prog 15 #[.pointer (some ⟨g, 0, none⟩), .slice Ax x.length cx] W fun e W' => e = .returned (.bool true) ∧ St 29 37 (fun k => P k ∨ W.heap.size ≤ k) base W' g ((U ++ [x]).drop (U.length + 1 - 4)) [] ∧ Below base W W' ∧ Kp W W' P := by
 obtain ⟨hg, hPg, vu, vr, hb, hu, hr⟩ := h
 obtain ⟨Au, cu, rfl, hcu⟩ := Kd.Q_slice hu
 have BK := Aside0.mk hb
 have HU := Aside0.mk (Kd.Q_mono (Kd.Q_bound hu) (ok' := fun k => (P k ∧ k < W.heap.size) ∧ True) (fun k hk => ⟨⟨hk.1.1, hk.2.2.1⟩, trivial⟩))
 have HX := Aside0.mk (Kd.R_mono (Kd.R_bound hx) (ok' := fun k => P k ∧ k < W.heap.size) (fun k hk => ⟨hk.1, hk.2.2.1⟩))
 have HM := Aside0.mk hM
 have gl := Aside0.mk (blk_lt hb)
 have N5G : ¬ is56 W g := not56 hb (by decide)
 clear hb hu hr hx hM
 go_enter Try.func15, Try.ntmps15
 go_wp2_with fail
 refine (recensionref25_May.calls k Ax cx x true _ (Kd.R_reads' HX.out).2.2 (Kd.R_reads' HX.out).2.1 HM.out).mono ?_
 rintro e w1 ⟨rfl, hb1⟩
 have B1 := Aside0.mk (blk_below BK.out hb1)
 have HUR := Aside0.mk (Q_readsM (Kd.Q_below HU.out hb1))
 have HX1 := Aside0.mk (Kd.R_below HX.out hb1)
 have HB1 := Aside0.mk hb1
 have HS5 := Aside0.mk hb1.size
 have HBS := Aside0.mk (Nat.le_trans hbase hb1.size)
 have c0 : w1.cell? ⟨g, 0, none⟩ = some (.slice Au U.length cu) := (blk_cell B1.out 0).trans rfl
 clear hb1 HU HX BK
 by_cases h4 : U.length = 4
 ·have H4 := Aside0.mk h4
  clear h4
  go_wp2_with (first | ((with_reducible refine gate_builtin (b := .append) (xs := #[.const (.slice none 0 0), .tmp 12]) rfl ?_); (try (refine gate_guard (by rfl) ?_; dsimp only)); at_builtin; go_loud ((refine Kd.R_append_rows kS (w0 := w1) base rfl (.const (.slice none 0 0)) (.tmp 12) 27 37 (.slice none 0 0) 24 rfl Try.underlying27 info37 rfl (by decide) (by decide) (.slice none 0 0) ([] : List (List S56)) U Au U.length cu (fun k => (P k ∧ k < W.heap.size) ∨ w1.heap.size ≤ k) (fun k => P k ∧ k < W.heap.size) rfl rfl (Kd.R_nil _ _ _ _ _) HUR.out (fun x cs h => kS.M_mono (fun k hk => hk.1.1) h) (fun k hk => ⟨.inl hk, by simp [Value.ownBlock]⟩) (fun k hk => .inr hk) (Below.refl base _) HBS.out (by simp; omega) ?_; intro v6 w6 ho _ hg6 hat; rw [List.nil_append] at ho; obtain ⟨A6, c6, rfl⟩ := Kd.R_slice ho; have HO6 := Aside0.mk ho; have HB6 := Aside0.mk (nil_below hg6); have HF6 := Aside0.mk (nil_fresh hat); clear ho hg6 hat; have HX6 := Aside0.mk (Kd.R_below HX1.out HB6.out)))) | (at_builtin; go_loud ((refine Kd.R_append kS (w0 := w6) base rfl (.tmp 13) (.tmp 15) 27 37 (.slice none 0 0) 24 rfl Try.underlying27 info37 rfl (by decide) (by decide) (.slice A6 U.length c6) U x [.slice Ax x.length cx] (fun k => (P k ∧ k < W.heap.size) ∨ w1.heap.size ≤ k) (fun k => P k ∧ k < W.heap.size) rfl rfl ⟨_, rfl, HX6.out⟩ ?aK ?aF HO6.out ?aB ?aS ?aL ?_; (case aK => exact fun k hk => ⟨.inl hk, fun e => by have h6 := HF6.out k e.symm; have h5 := HS5.out; have := hk.2; omega⟩); (case aF => exact fun k hk => .inr (Nat.le_trans HB6.out.size hk)); (case aB => exact Below.refl base _); (case aS => exact Nat.le_trans HBS.out HB6.out.size); (case aL => omega); intro v7 w7 ho _ hg7 hat; obtain ⟨g7, c7, rfl, gb7, gl7, cs7, hG7⟩ := Kd.R_form ho (by simp); have cl7 := (Kd.R_reads' ho).2.1; clear hG7 gb7 gl7 cs7; have HO7 := Aside0.mk ho; have HB7 := Aside0.mk (HB6.out.grown hg7 HB6.out.size HF6.out); have HF7 := Aside0.mk (grown_fresh HF6.out HB6.out.size hat); obtain ⟨n7, hn7⟩ : ∃ n7, (U ++ [x]).length = n7 := ⟨_, rfl⟩; rw [hn7] at HO7 HF7 cl7 ⊢; have HN7 := Aside0.mk hn7; clear ho hg7 hat hn7; have B7 := Aside0.mk (blk_below B1.out HB7.out); have o7 := blk_frozen B7.out 0; have p7 : w7.cell? ⟨g, 0, none⟩ = some (.slice Au U.length cu) := (blk_cell B7.out 0).trans rfl; have q7 := blk_frozen B7.out 1; have r7 : w7.cell? ⟨g, 1, none⟩ = some vr := (blk_cell B7.out 1).trans rfl; have h7 : n7 = U.length + 1 := (by have h7 := HN7.out; simp at h7; omega); have h4 := H4.out; have e1 : ((4 : Int) < (n7 : Int)) = True := eq_true (by omega); have e2 : (c7 = 1) = False := eq_false (by omega); have e3 : (1 ≤ n7) = True := eq_true (by omega); have e4 : ((1 : Int) ≤ (n7 : Int)) = True := eq_true (by omega); have e5 : (4 < n7) = True := eq_true (by omega); have e6 : (n7 ≤ c7) = True := eq_true (by omega); have H7 := Aside0.mk h7; clear h7 cl7 h4))))
  go_ret
  have B8 := blk_put (cs' := #[.slice (some ⟨g7, 0, none⟩) n7 c7, vr]) B7.out 0 (.slice (some ⟨g7, 0, none⟩) n7 c7) rfl
  have B9 := blk_put (cs' := #[.slice (some ⟨g7, 1, none⟩) (n7 - 1) (c7 - 1), vr]) B8 0 (.slice (some ⟨g7, 1, none⟩) (n7 - 1) (c7 - 1)) rfl
  have B10 := blk_put (cs' := #[.slice (some ⟨g7, 1, none⟩) (n7 - 1) (c7 - 1), .slice none 0 0]) B9 1 (.slice none 0 0) rfl
  have hq := Kd.Q_set (Kd.Q_set (Kd.Q_set (Kd.Q_of_R HO7.out) B7.out (by decide) 0 (.slice (some ⟨g7, 0, none⟩) n7 c7)) B8 (by decide) 0 (.slice (some ⟨g7, 1, none⟩) (n7 - 1) (c7 - 1))) B9 (by decide) 1 (.slice none 0 0)
  have hd := Kd.Q_drop (k := 1) hq (by rw [HN7.out]; have := H7.out; omega)
  rw [if_neg (by have := e2; simp at this; omega)] at hd
  refine ⟨rfl, ⟨hg, .inl hPg, _, _, B10, ?_, Kd.Q_nil _ _ _ _ _⟩, ?_, ?_⟩
  ·rw [show U.length + 1 - 4 = 1 by rw [H4.out]]
   exact Kd.Q_mono hd (fun k hk => ⟨hk.elim (fun h => .inl h.1) (fun h => .inr (Nat.le_trans HS5.out h)), by simp [Value.ownBlock]⟩)
  ·exact (((((HB1.out.trans (HB7.out.mono HS5.out)).mono hbase).setCell (p := ⟨g, 0, none⟩) hg _).setCell (p := ⟨g, 0, none⟩) hg _).setCell (p := ⟨g, 1, none⟩) hg _)
  ·exact Kept.setCell (Kept.setCell (Kept.setCell (Kept.below (Kept.below (Kept.refl W (fun k => P k ∧ ¬ is56 W k)) HB1.out) HB7.out) (p := ⟨g, 0, none⟩) (.inl ⟨hPg, N5G⟩) _) (p := ⟨g, 0, none⟩) (.inl ⟨hPg, N5G⟩) _) (p := ⟨g, 1, none⟩) (.inl ⟨hPg, N5G⟩) _
 ·have H4 := Aside0.mk h4
  clear h4
  go_wp2_with (first | ((with_reducible refine gate_builtin (b := .append) (xs := #[.const (.slice none 0 0), .tmp 12]) rfl ?_); (try (refine gate_guard (by rfl) ?_; dsimp only)); at_builtin; go_loud ((refine Kd.R_append_rows kS (w0 := w1) base rfl (.const (.slice none 0 0)) (.tmp 12) 27 37 (.slice none 0 0) 24 rfl Try.underlying27 info37 rfl (by decide) (by decide) (.slice none 0 0) ([] : List (List S56)) U Au U.length cu (fun k => (P k ∧ k < W.heap.size) ∨ w1.heap.size ≤ k) (fun k => P k ∧ k < W.heap.size) rfl rfl (Kd.R_nil _ _ _ _ _) HUR.out (fun x cs h => kS.M_mono (fun k hk => hk.1.1) h) (fun k hk => ⟨.inl hk, by simp [Value.ownBlock]⟩) (fun k hk => .inr hk) (Below.refl base _) HBS.out (by simp; omega) ?_; intro v6 w6 ho _ hg6 hat; rw [List.nil_append] at ho; obtain ⟨A6, c6, rfl⟩ := Kd.R_slice ho; have HO6 := Aside0.mk ho; have HB6 := Aside0.mk (nil_below hg6); have HF6 := Aside0.mk (nil_fresh hat); clear ho hg6 hat; have HX6 := Aside0.mk (Kd.R_below HX1.out HB6.out)))) | (at_builtin; go_loud ((refine Kd.R_append kS (w0 := w6) base rfl (.tmp 13) (.tmp 15) 27 37 (.slice none 0 0) 24 rfl Try.underlying27 info37 rfl (by decide) (by decide) (.slice A6 U.length c6) U x [.slice Ax x.length cx] (fun k => (P k ∧ k < W.heap.size) ∨ w1.heap.size ≤ k) (fun k => P k ∧ k < W.heap.size) rfl rfl ⟨_, rfl, HX6.out⟩ ?aK ?aF HO6.out ?aB ?aS ?aL ?_; (case aK => exact fun k hk => ⟨.inl hk, fun e => by have h6 := HF6.out k e.symm; have h5 := HS5.out; have := hk.2; omega⟩); (case aF => exact fun k hk => .inr (Nat.le_trans HB6.out.size hk)); (case aB => exact Below.refl base _); (case aS => exact Nat.le_trans HBS.out HB6.out.size); (case aL => omega); intro v7 w7 ho _ hg7 hat; obtain ⟨g7, c7, rfl, gb7, gl7, cs7, hG7⟩ := Kd.R_form ho (by simp); have cl7 := (Kd.R_reads' ho).2.1; clear hG7 gb7 gl7 cs7; have HO7 := Aside0.mk ho; have HB7 := Aside0.mk (HB6.out.grown hg7 HB6.out.size HF6.out); have HF7 := Aside0.mk (grown_fresh HF6.out HB6.out.size hat); obtain ⟨n7, hn7⟩ : ∃ n7, (U ++ [x]).length = n7 := ⟨_, rfl⟩; rw [hn7] at HO7 HF7 cl7 ⊢; have HN7 := Aside0.mk hn7; clear ho hg7 hat hn7; have B7 := Aside0.mk (blk_below B1.out HB7.out); have o7 := blk_frozen B7.out 0; have p7 : w7.cell? ⟨g, 0, none⟩ = some (.slice Au U.length cu) := (blk_cell B7.out 0).trans rfl; have q7 := blk_frozen B7.out 1; have r7 : w7.cell? ⟨g, 1, none⟩ = some vr := (blk_cell B7.out 1).trans rfl; have h7 : n7 = U.length + 1 := (by have h7 := HN7.out; simp at h7; omega); have h4 := H4.out; have e1 : ((4 : Int) < (n7 : Int)) = False := eq_false (by omega); have e5 : (4 < n7) = False := eq_false (by omega); have H7 := Aside0.mk h7; clear h7 cl7 h4))))
  go_ret
  have B8 := blk_put (cs' := #[.slice (some ⟨g7, 0, none⟩) n7 c7, vr]) B7.out 0 (.slice (some ⟨g7, 0, none⟩) n7 c7) rfl
  have B9 := blk_put (cs' := #[.slice (some ⟨g7, 0, none⟩) n7 c7, .slice none 0 0]) B8 1 (.slice none 0 0) rfl
  have hq := Kd.Q_set (Kd.Q_set (Kd.Q_of_R HO7.out) B7.out (by decide) 0 (.slice (some ⟨g7, 0, none⟩) n7 c7)) B8 (by decide) 1 (.slice none 0 0)
  refine ⟨rfl, ⟨hg, .inl hPg, _, _, B9, ?_, Kd.Q_nil _ _ _ _ _⟩, ?_, ?_⟩
  ·rw [show U.length + 1 - 4 = 0 by have := H4.out; omega, List.drop_zero]
   exact Kd.Q_mono hq (fun k hk => ⟨hk.elim (fun h => .inl h.1) (fun h => .inr (Nat.le_trans HS5.out h)), by simp [Value.ownBlock]⟩)
  ·exact ((((HB1.out.trans (HB7.out.mono HS5.out)).mono hbase).setCell (p := ⟨g, 0, none⟩) hg _).setCell (p := ⟨g, 1, none⟩) hg _)
  ·exact Kept.setCell (Kept.setCell (Kept.below (Kept.below (Kept.refl W (fun k => P k ∧ ¬ is56 W k)) HB1.out) HB7.out) (p := ⟨g, 0, none⟩) (.inl ⟨hPg, N5G⟩) _) (p := ⟨g, 1, none⟩) (.inl ⟨hPg, N5G⟩) _
def rbytesC (k : Nat) : List Int → List S56 → Option (List Int)
 | b, [] => some b
 | b, c :: l => (recensionref1_PutText.f k c.f0).bind fun p0 => (recensionref25_yes.f k c.f1).bind fun p1 => (recensionref25_yes.f k c.f2).bind fun p2 => (recensionref1_PutText.f k c.f3).bind fun p3 => (recensionref1_PutText.f k c.f4).bind fun p4 => if b.length + p0.length + p1.length + p2.length + p3.length + p4.length ≤ 100000000 then rbytesC k (b ++ p0 ++ p1 ++ p2 ++ p3 ++ p4) l else none
def rbytesS (k : Nat) : List Int → List (List S56) → Option (List Int)
 | b, [] => some b
 | b, x :: l => (recensionref1_Put.f k (x.length : Int)).bind fun p => if b.length + p.length ≤ 100000000 then (rbytesC k (b ++ p) x).bind fun b => rbytesS k b l else none
/-- What the reference writes. -/
def rbytes (k : Nat) (U R : List (List S56)) : Option (List Int) := (recensionref1_Put.f k (U.length : Int)).bind fun a => (recensionref1_Put.f k (R.length : Int)).bind fun b => if a.length + b.length ≤ 100000000 then rbytesS k (a ++ b) (U ++ R) else none
theorem R_apart {α : Type} {d : Kd α} {e t g : Nat} {W W2 : World} {base : Nat} {ok : Nat → Prop} {v : Value} {xs : List α} {cells : Array Value} (h : d.R e W base ok v xs) (hb : W.heap[g]? = some (.cells cells t (0, 0))) (hne : ∀ q, q ∈ e :: d.E → q ≠ t) (hk : Kept W W2 (fun k => k = g)) : d.R e W2 base ok v xs := by
 refine Kd.R_mono (Kd.R_kept (Kd.R_bound h) hk (fun k hk1 he => ?_)) (fun k hk => hk.1)
 obtain ⟨_, _, _, q, hq, cells', hc⟩ := hk1
 subst he
 rw [hb] at hc
 injection hc with hc
 injection hc with _ hc
 exact hne q hq hc.symm
theorem fixed_ne (w : World) : ∀ q, q ∈ 37 :: (Kd.fixed kS w).E → q ≠ 56 := by
 intro q hq
 have h : q = 37 := by simpa [Kd.fixed] using hq
 omega
theorem row_grown {α : Type} {d : Kd α} {w0 W W2 : World} {base b2 : Nat} {ok ok2 : Nat → Prop} {u v : Value} {xs : List α} {bs : List Int} (h : Kd.R (Kd.fixed d w0) 37 W base ok v xs) (hg : W.grownBy W2 u.ownBlock) (hu : Kd.R (Kd.int .u8) 5 W b2 ok2 u bs) : Kd.R (Kd.fixed d w0) 37 W2 base ok v xs := by
 refine Kd.R_mono (Kd.R_grown (Kd.R_bound h) hg (fun k hk1 he => ?_)) (fun k hk => hk.1)
 obtain ⟨_, _, _, q, hq, cells, hc⟩ := hk1
 have hq2 : q = 37 := by simpa [Kd.fixed] using hq
 subst hq2
 exact Kd.R_ne hu hc (by decide) he
theorem u8_grown {W W2 : World} {α : Type} {d : Kd α} {base b2 : Nat} {ok ok2 : Nat → Prop} {u v : Value} {xs : List α} {bs : List Int} (hu : Kd.R (Kd.int .u8) 5 W b2 ok2 v bs) (hg : W.grownBy W2 u.ownBlock) (h : Kd.R d 37 W base ok u xs) : Kd.R (Kd.int .u8) 5 W2 b2 ok2 v bs := by
 refine Kd.R_mono (Kd.R_grown (Kd.R_bound hu) hg (fun k hk1 he => ?_)) (fun k hk => hk.1)
 obtain ⟨_, _, _, q, hq, cells, hc⟩ := hk1
 have hq2 : q = 5 := by simpa [Kd.int, Kd.scalar] using hq
 subst hq2
 exact Kd.R_ne h hc (by decide) he
set_option maxHeartbeats 4000000 in
set_option maxRecDepth 100000 in
theorem rbytes_yes (k : Nat) (P : Nat → Prop) (base g : Nat) (U R : List (List S56)) (r : List Int) (w : World) (h : St 29 37 P base w g U R) (hU : U.length ≤ 1000) (hRl : R.length ≤ 1000) (hx : ∀ x ∈ U ++ R, x.length ≤ 1000) (hf : rbytes k U R = some r) :
  Calls Try.prog 24 #[.pointer (some ⟨g, 0, none⟩)] w fun e w' => ∃ v, e = .returned v ∧ Kd.R (Kd.int .u8) 5 w' w.heap.size (fun _ => True) v r ∧ Below w.heap.size w w' := by
 obtain ⟨hg, hPg, vu, vr, hb, hu, hr⟩ := h
 obtain ⟨Au, cu, rfl, hcu⟩ := Kd.Q_slice hu
 obtain ⟨Ar, cr, rfl, hcr⟩ := Kd.Q_slice hr
 have HCU := Aside0.mk (Kd.Q_reads' hu).2.2
 have HCR := Aside0.mk (Kd.Q_reads' hr).2.2
 have c0 : w.cell? ⟨g, 0, none⟩ = some (.slice Au U.length cu) := (blk_cell hb 0).trans rfl
 have c1 : w.cell? ⟨g, 1, none⟩ = some (.slice Ar R.length cr) := (blk_cell hb 1).trans rfl
 have BK := Aside0.mk hb
 unfold rbytes at hf
 obtain ⟨q1, hf1, hf⟩ := Option.bind_eq_some_iff.1 hf
 obtain ⟨q2, hf2, hf⟩ := Option.bind_eq_some_iff.1 hf
 by_cases hT : q1.length + q2.length ≤ 100000000
 ·rw [if_pos hT] at hf
  have F1 := Aside0.mk hf1
  have F2 := Aside0.mk hf2
  obtain ⟨UR, hUR⟩ : ∃ UR, U ++ R = UR := ⟨_, rfl⟩
  have hURl : UR.length ≤ 2000 := by rw [← hUR, List.length_append]; omega
  rw [hUR] at hf hx
  have F3 := Aside0.mk hf
  have HUR := Aside0.mk hUR
  have HXL := Aside0.mk hx
  have HB0 := Aside0.mk (below_drew1 (Below.refl w.heap.size w))
  clear hb hu hr hf1 hf2 hf hUR hx hcu hcr
  go_enter Try.func24, Try.ntmps24
  go_wp2_with fail
  refine start_ (n := 14) (S := fun w' => w'.cell? ⟨g, 0, none⟩ = some (.slice Au U.length cu) ∧ w'.cell? ⟨g, 1, none⟩ = some (.slice Ar R.length cr)) (ds := []) #[false, false, false, false, false, false, false, false, false, false, false, false, false, false] (by kernel_rfl) rfl rfl ⟨(blk_cell (blk_below BK.out HB0.out) 0).trans rfl, (blk_cell (blk_below BK.out HB0.out) 1).trans rfl⟩ (fun hHeld => ?_)
  refine pure_ (i := 0) (N := some 8) (v := ?_) (a' := ?_) #[true, false, false, false, false, false, false, false, false, false, false, false, false, false] rfl rfl (by kernel_rfl) (fun _ _ _ h => h) (Or.inl ⟨by rfl, ?_⟩) ?_ ?_
  rotate_left
  ·intro w'
   go_simp
   with_reducible rfl
  rotate_left
  ·simp only [Act.put, List.setIfInBounds_toArray, List.set_cons_zero, List.set_cons_succ, i64_w, i32_w]
   rfl
  refine pure_ (i := 1) (N := some 9) (v := ?_) (a' := ?_) #[true, true, false, false, false, false, false, false, false, false, false, false, false, false] rfl rfl (by kernel_rfl) (fun _ _ _ h => h) (Or.inl ⟨by rfl, ?_⟩) ?_ ?_
  rotate_left
  ·intro w'
   go_simp
   with_reducible rfl
  rotate_left
  ·simp only [Act.put, List.setIfInBounds_toArray, List.set_cons_zero, List.set_cons_succ, i64_w, i32_w]
   rfl
  refine pure_ (i := 2) (N := some 10) (v := ?_) (a' := ?_) #[true, true, true, false, false, false, false, false, false, false, false, false, false, false] rfl rfl (by kernel_rfl) (fun _ _ _ h => h) (Or.inl ⟨by rfl, ?_⟩) ?_ ?_
  rotate_left
  ·intro w'
   go_simp
   with_reducible rfl
  rotate_left
  ·simp only [Act.put, List.setIfInBounds_toArray, List.set_cons_zero, List.set_cons_succ, i64_w, i32_w]
   rfl
  refine pure_ (i := 6) (N := some 14) (v := ?_) (a' := ?_) #[true, true, true, false, false, false, true, false, false, false, false, false, false, false] rfl rfl (by kernel_rfl) (fun _ _ _ h => h) (Or.inl ⟨by rfl, ?_⟩) ?_ ?_
  rotate_left
  ·intro w'
   go_simp
   with_reducible rfl
  rotate_left
  ·simp only [Act.put, List.setIfInBounds_toArray, List.set_cons_zero, List.set_cons_succ, i64_w, i32_w]
   rfl
  refine pure_ (i := 7) (N := some 15) (v := ?_) (a' := ?_) #[true, true, true, false, false, false, true, true, false, false, false, false, false, false] rfl rfl (by kernel_rfl) (fun _ _ _ h => h) (Or.inl ⟨by rfl, ?_⟩) ?_ ?_
  rotate_left
  ·intro w'
   go_simp
   with_reducible rfl
  rotate_left
  ·simp only [Act.put, List.setIfInBounds_toArray, List.set_cons_zero, List.set_cons_succ, i64_w, i32_w]
   rfl
  refine pure_ (i := 8) (N := some 16) (v := ?_) (a' := ?_) #[true, true, true, false, false, false, true, true, true, false, false, false, false, false] rfl rfl (by kernel_rfl) (fun _ _ _ h => h) (Or.inl ⟨by rfl, ?_⟩) ?_ ?_
  rotate_left
  ·intro w'
   go_simp
   with_reducible rfl
  rotate_left
  ·simp only [Act.put, List.setIfInBounds_toArray, List.set_cons_zero, List.set_cons_succ, i64_w, i32_w]
   rfl
  refine take_ (i := 3) (N := some 11) (v := ?_) (a' := ?_) #[true, true, true, true, false, false, true, true, true, false, false, false, false, false] rfl rfl (by kernel_rfl) (fun _ _ _ h => h) (Or.inl ⟨by rfl, ?_⟩) hHeld ?_ ?_
  rotate_left
  ·rintro w' ⟨s0, s1⟩
   go_simp
   with_reducible rfl
  rotate_left
  ·simp only [Act.put, List.setIfInBounds_toArray, List.set_cons_zero, List.set_cons_succ, i64_w, i32_w]
   rfl
  refine pure_ (i := 4) (N := some 12) (v := ?_) (a' := ?_) #[true, true, true, true, true, false, true, true, true, false, false, false, false, false] rfl rfl (by kernel_rfl) (fun _ _ _ h => h) (Or.inl ⟨by rfl, ?_⟩) ?_ ?_
  rotate_left
  ·intro w'
   go_simp
   with_reducible rfl
  rotate_left
  ·simp only [Act.put, List.setIfInBounds_toArray, List.set_cons_zero, List.set_cons_succ, i64_w, i32_w]
   rfl
  refine take_ (i := 9) (N := some 17) (v := ?_) (a' := ?_) #[true, true, true, true, true, false, true, true, true, true, false, false, false, false] rfl rfl (by kernel_rfl) (fun _ _ _ h => h) (Or.inl ⟨by rfl, ?_⟩) hHeld ?_ ?_
  rotate_left
  ·rintro w' ⟨s0, s1⟩
   go_simp
   with_reducible rfl
  rotate_left
  ·simp only [Act.put, List.setIfInBounds_toArray, List.set_cons_zero, List.set_cons_succ, i64_w, i32_w]
   rfl
  refine pure_ (i := 10) (N := some 18) (v := ?_) (a' := ?_) #[true, true, true, true, true, false, true, true, true, true, true, false, false, false] rfl rfl (by kernel_rfl) (fun _ _ _ h => h) (Or.inl ⟨by rfl, ?_⟩) ?_ ?_
  rotate_left
  ·intro w'
   go_simp
   with_reducible rfl
  rotate_left
  ·simp only [Act.put, List.setIfInBounds_toArray, List.set_cons_zero, List.set_cons_succ, i64_w, i32_w]
   rfl
  refine one_ (i := 5) (N := some 13) #[true, true, true, true, true, true, true, true, true, true, true, false, false, false] rfl rfl (by kernel_rfl) (by decide) (fun K hK => ?_)
  refine goes_ Try.func42 (by kernel_rfl) rfl #[.int .i64 (U.length : Int)] (by rfl) rfl rfl (by simp only [List.map_toArray, List.map_cons, List.map_nil]; rfl) ?_
  with_reducible refine (recensionref1_Put.calls k (U.length : Int) q1 _ F1.out).mono ?_
  rintro e w1_ ⟨v1_, rfl, ho_, hb_⟩
  obtain ⟨Av1, cv1, rfl⟩ := Kd.R_slice ho_
  have HV1 := Aside0.mk ho_
  have HB1 := Aside0.mk (below_step HB0.out hb_)
  have HO1 := Aside0.mk (Kd.R_mono (Kd.R_bound (Kd.R_lower ho_ HB0.out.size)) (ok' := fun k_ => w.heap.size ≤ k_) (fun k_ hk_ => hk_.2.1))
  clear ho_ hb_
  refine ⟨_, rfl, ?_⟩
  refine hK.out _ _ ⟨(blk_cell (blk_below BK.out HB1.out) 0).trans rfl, (blk_cell (blk_below BK.out HB1.out) 1).trans rfl⟩ (fun hHeld => ?_)
  clear hK K
  refine norm_ (a' := ?_) ?_ ?_
  rotate_left
  ·show Act.put _ (some 13) _ = _
   simp only [Act.put, List.setIfInBounds_toArray, List.set_cons_zero, List.set_cons_succ, i64_w, i32_w]
   rfl
  refine one_ (i := 11) (N := some 19) #[true, true, true, true, true, true, true, true, true, true, true, true, false, false] rfl rfl (by kernel_rfl) (by decide) (fun K hK => ?_)
  refine goes_ Try.func42 (by kernel_rfl) rfl #[.int .i64 (R.length : Int)] (by rfl) rfl rfl (by simp only [List.map_toArray, List.map_cons, List.map_nil]; rfl) ?_
  with_reducible refine (recensionref1_Put.calls k (R.length : Int) q2 _ F2.out).mono ?_
  rintro e w2_ ⟨v2_, rfl, ho_, hb_⟩
  obtain ⟨Av2, cv2, rfl⟩ := Kd.R_slice ho_
  have HV2 := Aside0.mk ho_
  have HB2 := Aside0.mk (below_step HB1.out hb_)
  have HO2 := Aside0.mk (Kd.R_below HO1.out hb_)
  clear ho_ hb_
  refine ⟨_, rfl, ?_⟩
  refine hK.out _ _ ⟨(blk_cell (blk_below BK.out HB2.out) 0).trans rfl, (blk_cell (blk_below BK.out HB2.out) 1).trans rfl⟩ (fun hHeld => ?_)
  clear hK K
  refine norm_ (a' := ?_) ?_ ?_
  rotate_left
  ·show Act.put _ (some 19) _ = _
   simp only [Act.put, List.setIfInBounds_toArray, List.set_cons_zero, List.set_cons_succ, i64_w, i32_w]
   rfl
  refine one_ (i := 12) (N := some 20) #[true, true, true, true, true, true, true, true, true, true, true, true, true, false] rfl rfl (by kernel_rfl) (by decide) (fun K hK => ?_)
  refine Kd.R_append_rows_step (Kd.int .u8) (w0 := w) w.heap.size (by rfl) (.tmp 13) (.tmp 19) 43 5 (.int .u8 0) 1 rfl Try.underlying43 info5 rfl (by decide) (by decide) (.slice Av1 q1.length cv1) (q1) q2 Av2 q2.length cv2 (fun k_ => w.heap.size ≤ k_) (fun _ => False) rfl rfl HO2.out (Kd.R_reads' HV2.out).2.2 (fun _ _ h => h) (fun _ h => h.elim) (fun k hk => Nat.le_trans HB2.out.size hk) HB2.out HB2.out.size (by first | omega | (simp only [List.length_append]; omega)) ?_
  intro v3_ w3_ ho_ hb_ hg_ _
  have HO3 := Aside0.mk ho_
  have HB3 := Aside0.mk hb_
  clear ho_ hb_ hg_
  refine hK.out _ _ ⟨(blk_cell (blk_below BK.out HB3.out) 0).trans rfl, (blk_cell (blk_below BK.out HB3.out) 1).trans rfl⟩ (fun hHeld => ?_)
  clear hK K
  refine norm_ (a' := ?_) ?_ ?_
  rotate_left
  ·show Act.put _ (some 20) _ = _
   simp only [Act.put, List.setIfInBounds_toArray, List.set_cons_zero, List.set_cons_succ, i64_w, i32_w]
   rfl
  refine pure_ (i := 13) (N := some 3) (v := ?_) (a' := ?_) #[true, true, true, true, true, true, true, true, true, true, true, true, true, true] rfl rfl (by kernel_rfl) (fun _ _ _ h => h) (Or.inl ⟨by rfl, ?_⟩) ?_ ?_
  rotate_left
  ·intro w'
   go_simp
   with_reducible rfl
  rotate_left
  ·simp only [Act.put, List.setIfInBounds_toArray, List.set_cons_zero, List.set_cons_succ, i64_w, i32_w]
   rfl
  refine done_ (by kernel_rfl) ?_
  go_wp2_with fail
  refine start_ (n := 11) (S := fun w' => w'.cell? ⟨g, 0, none⟩ = some (.slice Au U.length cu) ∧ w'.cell? ⟨g, 1, none⟩ = some (.slice Ar R.length cr)) (ds := []) #[false, false, false, false, false, false, false, false, false, false, false] (by kernel_rfl) rfl rfl ⟨(blk_cell (blk_below BK.out (below_drew1 HB3.out)) 0).trans rfl, (blk_cell (blk_below BK.out (below_drew1 HB3.out)) 1).trans rfl⟩ (fun hHeld => ?_)
  refine pure_ (i := 0) (N := some 21) (v := ?_) (a' := ?_) #[true, false, false, false, false, false, false, false, false, false, false] rfl rfl (by kernel_rfl) (fun _ _ _ h => h) (Or.inl ⟨by rfl, ?_⟩) ?_ ?_
  rotate_left
  ·intro w'
   go_simp
   with_reducible rfl
  rotate_left
  ·simp only [Act.put, List.setIfInBounds_toArray, List.set_cons_zero, List.set_cons_succ, i64_w, i32_w]
   rfl
  refine pure_ (i := 1) (N := some 22) (v := ?_) (a' := ?_) #[true, true, false, false, false, false, false, false, false, false, false] rfl rfl (by kernel_rfl) (fun _ _ _ h => h) (Or.inl ⟨by rfl, ?_⟩) ?_ ?_
  rotate_left
  ·intro w'
   go_simp
   with_reducible rfl
  rotate_left
  ·simp only [Act.put, List.setIfInBounds_toArray, List.set_cons_zero, List.set_cons_succ, i64_w, i32_w]
   rfl
  refine pure_ (i := 2) (N := some 23) (v := ?_) (a' := ?_) #[true, true, true, false, false, false, false, false, false, false, false] rfl rfl (by kernel_rfl) (fun _ _ _ h => h) (Or.inl ⟨by rfl, ?_⟩) ?_ ?_
  rotate_left
  ·intro w'
   go_simp
   with_reducible rfl
  rotate_left
  ·simp only [Act.put, List.setIfInBounds_toArray, List.set_cons_zero, List.set_cons_succ, i64_w, i32_w]
   rfl
  refine pure_ (i := 5) (N := some 26) (v := ?_) (a' := ?_) #[true, true, true, false, false, true, false, false, false, false, false] rfl rfl (by kernel_rfl) (fun _ _ _ h => h) (Or.inl ⟨by rfl, ?_⟩) ?_ ?_
  rotate_left
  ·intro w'
   go_simp
   with_reducible rfl
  rotate_left
  ·simp only [Act.put, List.setIfInBounds_toArray, List.set_cons_zero, List.set_cons_succ, i64_w, i32_w]
   rfl
  refine pure_ (i := 6) (N := some 27) (v := ?_) (a' := ?_) #[true, true, true, false, false, true, true, false, false, false, false] rfl rfl (by kernel_rfl) (fun _ _ _ h => h) (Or.inl ⟨by rfl, ?_⟩) ?_ ?_
  rotate_left
  ·intro w'
   go_simp
   with_reducible rfl
  rotate_left
  ·simp only [Act.put, List.setIfInBounds_toArray, List.set_cons_zero, List.set_cons_succ, i64_w, i32_w]
   rfl
  refine pure_ (i := 7) (N := some 28) (v := ?_) (a' := ?_) #[true, true, true, false, false, true, true, true, false, false, false] rfl rfl (by kernel_rfl) (fun _ _ _ h => h) (Or.inl ⟨by rfl, ?_⟩) ?_ ?_
  rotate_left
  ·intro w'
   go_simp
   with_reducible rfl
  rotate_left
  ·simp only [Act.put, List.setIfInBounds_toArray, List.set_cons_zero, List.set_cons_succ, i64_w, i32_w]
   rfl
  refine take_ (i := 3) (N := some 24) (v := ?_) (a' := ?_) #[true, true, true, true, false, true, true, true, false, false, false] rfl rfl (by kernel_rfl) (fun _ _ _ h => h) (Or.inl ⟨by rfl, ?_⟩) hHeld ?_ ?_
  rotate_left
  ·rintro w' ⟨s0, s1⟩
   go_simp
   with_reducible rfl
  rotate_left
  ·simp only [Act.put, List.setIfInBounds_toArray, List.set_cons_zero, List.set_cons_succ, i64_w, i32_w]
   rfl
  refine take_ (i := 8) (N := some 29) (v := ?_) (a' := ?_) #[true, true, true, true, false, true, true, true, true, false, false] rfl rfl (by kernel_rfl) (fun _ _ _ h => h) (Or.inl ⟨by rfl, ?_⟩) hHeld ?_ ?_
  rotate_left
  ·rintro w' ⟨s0, s1⟩
   go_simp
   with_reducible rfl
  rotate_left
  ·simp only [Act.put, List.setIfInBounds_toArray, List.set_cons_zero, List.set_cons_succ, i64_w, i32_w]
   rfl
  refine one_ (i := 4) (N := some 25) #[true, true, true, true, true, true, true, true, true, false, false] rfl rfl (by kernel_rfl) (by decide) (fun K hK => ?_)
  refine Kd.R_append_rows_step (Kd.fixed kS w) (w0 := w) w.heap.size (by rfl) (.const (.slice none 0 0)) (.tmp 24) 27 37 (.slice none 0 0) 24 rfl Try.underlying27 info37 rfl Nat.zero_lt_one (by decide) (.slice none 0 0) ([] : List (List S56)) U Au U.length cu (fun _ => True) (fun _ => False) rfl rfl (Kd.R_nil _ _ _ _ _) (Kd.C_fixed (d := kS) HCU.out (below_drew1 HB3.out)) (fun x cs h => h) (fun _ h => h.elim) (fun _ _ => trivial) (below_drew1 HB3.out) (below_drew1 HB3.out).size (by first | omega | (simp; omega)) ?_
  intro v4 w4 ho hb hg hat
  rw [List.nil_append] at ho
  obtain ⟨A4, c4, rfl⟩ := Kd.R_slice ho
  have HU4 := Aside0.mk ho
  have HB4 := Aside0.mk hb
  have HO4 := Aside0.mk (Kd.R_below (Kd.R_drew HO3.out) (nil_below hg))
  clear ho hb hg hat
  refine hK.out _ _ ⟨(blk_cell (blk_below BK.out HB4.out) 0).trans rfl, (blk_cell (blk_below BK.out HB4.out) 1).trans rfl⟩ (fun hHeld => ?_)
  clear hK K
  refine norm_ (a' := ?_) ?_ ?_
  rotate_left
  ·show Act.put _ (some 25) _ = _
   simp only [Act.put, List.setIfInBounds_toArray, List.set_cons_zero, List.set_cons_succ, i64_w, i32_w]
   rfl
  refine one_ (i := 9) (N := some 30) #[true, true, true, true, true, true, true, true, true, true, false] rfl rfl (by kernel_rfl) (by decide) (fun K hK => ?_)
  refine Kd.R_append_rows_step (Kd.fixed kS w) (w0 := w) w.heap.size (by rfl) (.tmp 25) (.tmp 29) 27 37 (.slice none 0 0) 24 rfl Try.underlying27 info37 rfl Nat.zero_lt_one (by decide) (.slice A4 U.length c4) U R Ar R.length cr (fun _ => True) (fun _ => False) rfl rfl HU4.out (Kd.C_fixed (d := kS) HCR.out HB4.out) (fun x cs h => h) (fun _ h => h.elim) (fun _ _ => trivial) HB4.out HB4.out.size (by first | omega | (simp; omega)) ?_
  intro v5 w5 ho hb hg hat
  rw [HUR.out] at ho
  obtain ⟨A5, c5, rfl⟩ := Kd.R_slice ho
  have HR5 := Aside0.mk ho
  have HB5 := Aside0.mk hb
  have HO5 := Aside0.mk (u8_grown HO4.out hg HU4.out)
  clear ho hb hg hat
  refine hK.out _ _ ⟨(blk_cell (blk_below BK.out HB5.out) 0).trans rfl, (blk_cell (blk_below BK.out HB5.out) 1).trans rfl⟩ (fun hHeld => ?_)
  clear hK K
  refine norm_ (a' := ?_) ?_ ?_
  rotate_left
  ·show Act.put _ (some 30) _ = _
   simp only [Act.put, List.setIfInBounds_toArray, List.set_cons_zero, List.set_cons_succ, i64_w, i32_w]
   rfl
  refine pure_ (i := 10) (N := some 4) (v := ?_) (a' := ?_) #[true, true, true, true, true, true, true, true, true, true, true] rfl rfl (by kernel_rfl) (fun _ _ _ h => h) (Or.inl ⟨by rfl, ?_⟩) ?_ ?_
  rotate_left
  ·intro w'
   go_simp
   with_reducible rfl
  rotate_left
  ·simp only [Act.put, List.setIfInBounds_toArray, List.set_cons_zero, List.set_cons_succ, i64_w, i32_w]
   rfl
  refine done_ (by kernel_rfl) ?_
  go_wp2_with fail
  go_loopw [3, 5] (fun b i wr => ∃ (x : Int) (bs : List Int), i = .int .i64 x ∧ 0 ≤ x ∧ x ≤ UR.length ∧ Aside0 (Kd.R (Kd.int .u8) 5 wr w.heap.size (fun k_ => w.heap.size ≤ k_) b bs) ∧ Aside0 (Below w.heap.size w wr) ∧ Aside0 (Kd.R (Kd.fixed kS w) 37 wr w.heap.size (fun _ => True) (.slice A5 UR.length c5) UR) ∧ Aside0 (rbytesS k bs (UR.drop x.toNat) = some r)) (fun _ i _ => UR.length - (intOf i).toNat)
  case atStart => exact ⟨0, q1 ++ q2, rfl, Int.le_refl _, by omega, HO5, HB5, HR5, ⟨F3.out⟩⟩
  case round =>
   obtain ⟨x, bs, rfl, hx0, hxl, HO, HB, HRW, HG⟩ := hrel
   obtain ⟨Ab, cb, rfl⟩ := Kd.R_slice HO.out
   by_cases hlt : x < (UR.length : Int)
   ·obtain ⟨ad, Ax, cx, rfl, q0, hcx, hCx⟩ := at_F (Kd.R_reads' HRW.out).2.2 x hx0 hlt
    have hgo := HG.out
    have hl : x.toNat < UR.length := by omega
    have hxm := HXL.out UR[x.toNat] (List.getElem_mem hl)
    rw [List.drop_eq_getElem_cons hl] at hgo
    have hy1 : rd_L3 UR x = UR[x.toNat] := by unfold rd_L3; simp [hl]
    rw [← hy1] at hgo hxm
    have HY := Aside0.mk (rfl : rd_L3 UR x = rd_L3 UR x)
    obtain ⟨y, hy⟩ : ∃ y, rd_L3 UR x = y := ⟨_, rfl⟩
    replace HY := Aside0.mk hy
    rw [hy] at q0 hcx hCx hgo hxm
    simp only [rbytesS] at hgo
    obtain ⟨q3, g1, hgo⟩ := Option.bind_eq_some_iff.1 hgo
    by_cases hT3 : bs.length + q3.length ≤ 100000000
    ·rw [if_pos hT3] at hgo
     obtain ⟨b4, g2, hgo⟩ := Option.bind_eq_some_iff.1 hgo
     have G1 := Aside0.mk g1
     have G2 := Aside0.mk g2
     have G3 := Aside0.mk hgo
     clear g1 g2 hgo hy hy1 hl HG hCx hcx
     have HOa := HO
     have HBa := HB
     have HRa := HRW
     clear HO HB HRW
     go_wp2_with (first | ((with_reducible refine gate_callee (f := 42) rfl ?_); refine goesL_ (some 43) rfl rfl Try.func42 (by kernel_rfl) rfl #[.int .i64 (y.length : Int)] rfl (by (try simp only [List.map_toArray, List.map_cons, List.map_nil]); first | done | rfl) ?_; go_loud (((with_reducible refine (recensionref1_Put.calls k (y.length : Int) q3 _ G1.out).mono ?_); rintro e w1_ ⟨v1_, rfl, ho_, hb_⟩; refine ⟨_, rfl, ?_⟩; obtain ⟨Av1, cv1, rfl⟩ := Kd.R_slice ho_; have HV1 := Aside0.mk ho_; have HB1 := Aside0.mk (below_step HBa.out hb_); have HO1 := Aside0.mk (Kd.R_below HOa.out hb_); have HR1 := Aside0.mk (Kd.R_below HRa.out hb_); clear ho_ hb_))) | (at_builtin; go_loud ((refine Kd.R_append_rows (Kd.int .u8) (w0 := w) w.heap.size rfl (.tmp 37) (.tmp 43) 43 5 (.int .u8 0) 1 rfl Try.underlying43 info5 rfl (by decide) (by decide) (.slice Ab bs.length cb) (bs) q3 Av1 q3.length cv1 (fun k_ => w.heap.size ≤ k_) (fun _ => False) rfl rfl HO1.out (Kd.R_reads' HV1.out).2.2 (fun _ _ h => h) (fun _ h => h.elim) (fun k hk => Nat.le_trans HB1.out.size hk) HB1.out HB1.out.size (by first | omega | (simp only [List.length_append]; omega)) ?_; intro v2_ w2_ ho_ hb_ hg_ _; have HO2 := Aside0.mk ho_; have HB2 := Aside0.mk hb_; have HR2 := Aside0.mk (row_grown HR1.out hg_ HO1.out); clear ho_ hb_ hg_))))
     clear q0
     go_loopw [3, 6] (fun b i wi => ∃ (z : Int) (bs : List Int), i = .int .i64 z ∧ 0 ≤ z ∧ z ≤ y.length ∧ Aside0 (Kd.R (Kd.int .u8) 5 wi w.heap.size (fun k_ => w.heap.size ≤ k_) b bs) ∧ Aside0 (Below w.heap.size w wi) ∧ Aside0 (Kd.R (Kd.fixed kS w) 37 wi w.heap.size (fun _ => True) (.slice (some ad) UR.length c5) UR) ∧ Aside0 (rbytesC k bs (y.drop z.toNat) = some b4)) (fun _ i _ => y.length - (intOf i).toNat)
     case atStart => exact ⟨0, bs ++ q3, rfl, Int.le_refl _, by omega, HO2, HB2, HR2, G2⟩
     case round =>
      clear HO2 HB2 HR2 G2
      obtain ⟨z, bs, rfl, hz0, hzl, HO, HB, HRW, HG⟩ := hrel
      obtain ⟨Ab, cb, rfl⟩ := Kd.R_slice HO.out
      obtain ⟨ad2, Ax, cx, e2, q0, hcx, hCx⟩ := at_F (Kd.R_reads' HRW.out).2.2 x hx0 hlt
      cases e2
      rw [HY.out] at q0 hcx hCx
      have HCX := Aside0.mk hCx
      have HLX := Aside0.mk hcx
      clear hCx hcx
      by_cases hlz : z < (y.length : Int)
      ·obtain ⟨ax, rfl, r0, r1, r2, r3, r4⟩ := at_T56 HCX.out z hz0 hlz
       replace r0 := (HB.out.cell (World.block_lt_of_cell? w _ r0)).trans r0
       replace r1 := (HB.out.cell (World.block_lt_of_cell? w _ r1)).trans r1
       replace r2 := (HB.out.cell (World.block_lt_of_cell? w _ r2)).trans r2
       replace r3 := (HB.out.cell (World.block_lt_of_cell? w _ r3)).trans r3
       replace r4 := (HB.out.cell (World.block_lt_of_cell? w _ r4)).trans r4
       have hgo := HG.out
       have hl : z.toNat < y.length := by omega
       rw [List.drop_eq_getElem_cons hl] at hgo
       have hy1 : rd_T56 y z = y[z.toNat] := by unfold rd_T56; simp [hl]
       rw [← hy1] at hgo
       obtain ⟨t, ht⟩ : ∃ t, rd_T56 y z = t := ⟨_, rfl⟩
       rw [ht] at r0 r1 r2 r3 r4 hgo
       obtain ⟨n0, h1, h2, old, new⟩ := t
       simp only [rbytesC] at hgo
       obtain ⟨p0, g0, hgo⟩ := Option.bind_eq_some_iff.1 hgo
       obtain ⟨p1, g1, hgo⟩ := Option.bind_eq_some_iff.1 hgo
       obtain ⟨p2, g2, hgo⟩ := Option.bind_eq_some_iff.1 hgo
       obtain ⟨p3, g3, hgo⟩ := Option.bind_eq_some_iff.1 hgo
       obtain ⟨p4, g4, hgo⟩ := Option.bind_eq_some_iff.1 hgo
       by_cases hT4 : bs.length + p0.length + p1.length + p2.length + p3.length + p4.length ≤ 100000000
       ·rw [if_pos hT4] at hgo
        have D0 := Aside0.mk g0
        have D1 := Aside0.mk g1
        have D2 := Aside0.mk g2
        have D3 := Aside0.mk g3
        have D4 := Aside0.mk g4
        have D5 := Aside0.mk hgo
        dsimp only at r0 r1 r2 r3 r4 D0 D1 D2 D3 D4
        clear g0 g1 g2 g3 g4 hgo ht hy1 hl HG
        go_wp2_with (first | ((with_reducible refine gate_dst (N := 7) rfl ?_); (try (refine gate_guard (by rfl) ?_; dsimp only)); refine box_event ?hg (N := 7) ?hd (cs := #[.string (⟨#[]⟩ : ByteArray), .bool false, .bool false, .string (⟨#[]⟩ : ByteArray), .string (⟨#[]⟩ : ByteArray)]) (t := 56) ?hr ?_; (case hd => rfl); (case hg => rfl); (case hr => first | (go_simp; done) | (go_simp; rfl)); intro gb hg w12 hbox hb; have HO12 := Aside0.mk (Kd.R_below HO.out hb); have HR12 := Aside0.mk (Kd.R_below HRW.out hb); clear HO HRW; have n0_ := Aside0.mk (below_step (by repeat (first | (with_reducible first | exact HB.out | apply below_alloc | apply pw_below_drewN | apply below_drew1) | exact HB.out)) hb); have n1_ := Aside0.mk (hbox); have n2_ := Aside0.mk ((by rw [hg]; exact (below_size (by repeat (first | (with_reducible first | exact HB.out | apply below_alloc | apply pw_below_drewN | apply below_drew1) | exact HB.out))) : w.heap.size ≤ gb)); have n3_ := Aside0.mk ((by rw [hg]; exact (below_size (by repeat (first | (with_reducible first | exact HB.out | apply below_alloc | apply pw_below_drewN | apply below_drew1) | exact HB.out))) : w.heap.size ≤ gb)); clear HB; have HB := n0_; have BK := n1_; have GW := n2_; have GE := n3_; clear n0_ n1_ n2_ n3_; clear hb hbox hg; have hcz13_0 : w12.cell? ⟨gb, 0, none⟩ = some (.string (⟨#[]⟩ : ByteArray)) := (blk_cell BK.out 0).trans rfl; have hcz13_1 : w12.cell? ⟨gb, 1, none⟩ = some (.bool false) := (blk_cell BK.out 1).trans rfl; have hcz13_2 : w12.cell? ⟨gb, 2, none⟩ = some (.bool false) := (blk_cell BK.out 2).trans rfl; have hcz13_3 : w12.cell? ⟨gb, 3, none⟩ = some (.string (⟨#[]⟩ : ByteArray)) := (blk_cell BK.out 3).trans rfl; have hcz13_4 : w12.cell? ⟨gb, 4, none⟩ = some (.string (⟨#[]⟩ : ByteArray)) := (blk_cell BK.out 4).trans rfl; have hfz13_0 := blk_frozen BK.out 0; have hfz13_1 := blk_frozen BK.out 1; have hfz13_2 := blk_frozen BK.out 2; have hfz13_3 := blk_frozen BK.out 3; have hfz13_4 := blk_frozen BK.out 4) | ((with_reducible refine gate_store (t := 56) (p := 7) rfl ?_); refine store_event (t := 56) (p := 7) (v := ?vo_w14) (w1 := (((((w12.setCell ⟨gb, 0, none⟩ (.string n0)).setCell ⟨gb, 1, none⟩ (.bool h1)).setCell ⟨gb, 2, none⟩ (.bool h2)).setCell ⟨gb, 3, none⟩ (.string old)).setCell ⟨gb, 4, none⟩ (.string new))) ?hg ?ho ?hn ?hr ?_; (case ho => rfl); (case hg => rfl); (case hn => rfl); (case hr => first | (go_simp; done) | (go_simp; rfl)); intro w14 hw; have hkp : Kept w12 w14 (fun k => k = gb) := (by rw [hw]; exact Kept.setCell (Kept.setCell (Kept.setCell (Kept.setCell (Kept.setCell (Kept.refl w12 (fun k => k = gb)) (p := ⟨gb, 0, none⟩) (.inl rfl) _) (p := ⟨gb, 1, none⟩) (.inl rfl) _) (p := ⟨gb, 2, none⟩) (.inl rfl) _) (p := ⟨gb, 3, none⟩) (.inl rfl) _) (p := ⟨gb, 4, none⟩) (.inl rfl) _); have HO14 := Aside0.mk (R_apart HO12.out BK.out (by decide) hkp); have HR14 := Aside0.mk (R_apart HR12.out BK.out (fixed_ne w) hkp); clear hkp HO12 HR12; have n0_ : Aside0 (w14.heap[gb]? = some (.cells #[.string n0, .bool h1, .bool h2, .string old, .string new] 56 (0, 0))) := ⟨(by rw [hw]; exact (by (with_reducible repeat (first | refine blk_drewN ?_ _ | refine blk_drew ?_ | refine blk_alloc ?_ _)); refine blk_put (cs := #[.string n0, .bool h1, .bool h2, .string old, .string (⟨#[]⟩ : ByteArray)]) ?_ 4 _ rfl; (with_reducible repeat (first | refine blk_drewN ?_ _ | refine blk_drew ?_ | refine blk_alloc ?_ _)); refine blk_put (cs := #[.string n0, .bool h1, .bool h2, .string (⟨#[]⟩ : ByteArray), .string (⟨#[]⟩ : ByteArray)]) ?_ 3 _ rfl; (with_reducible repeat (first | refine blk_drewN ?_ _ | refine blk_drew ?_ | refine blk_alloc ?_ _)); refine blk_put (cs := #[.string n0, .bool h1, .bool false, .string (⟨#[]⟩ : ByteArray), .string (⟨#[]⟩ : ByteArray)]) ?_ 2 _ rfl; (with_reducible repeat (first | refine blk_drewN ?_ _ | refine blk_drew ?_ | refine blk_alloc ?_ _)); refine blk_put (cs := #[.string n0, .bool false, .bool false, .string (⟨#[]⟩ : ByteArray), .string (⟨#[]⟩ : ByteArray)]) ?_ 1 _ rfl; (with_reducible repeat (first | refine blk_drewN ?_ _ | refine blk_drew ?_ | refine blk_alloc ?_ _)); refine blk_put (cs := #[.string (⟨#[]⟩ : ByteArray), .bool false, .bool false, .string (⟨#[]⟩ : ByteArray), .string (⟨#[]⟩ : ByteArray)]) ?_ 0 _ rfl; (with_reducible repeat (first | refine blk_drewN ?_ _ | refine blk_drew ?_ | refine blk_alloc ?_ _)); exact BK.out))⟩; have n1_ : Aside0 (Below w.heap.size w w14) := ⟨(by rw [hw]; exact (by repeat (first | (with_reducible first | exact HB.out | apply below_alloc | apply pw_below_drewN | apply below_drew1 | refine below_set ?_ GE.out) | exact HB.out)))⟩; clear hw; clear BK; clear HB; have BK := n0_; have HB := n1_; clear n0_ n1_; have BEa := BK; have HOa := HO14; have HBa := HB; have HRa := HR14; clear BK HO14 HB HR14; have m0 : w14.cell? ⟨gb, 0, none⟩ = some (.string n0) := (blk_cell BEa.out 0).trans rfl) | ((with_reducible refine gate_callee (f := 43) rfl ?_); refine goesL_ (some 64) rfl rfl Try.func43 (by kernel_rfl) rfl #[.string n0] rfl (by (try simp only [List.map_toArray, List.map_cons, List.map_nil]); first | done | rfl) ?_; go_loud (((with_reducible refine (recensionref1_PutText.calls k n0 p0 _ D0.out).mono ?_); rintro e w1_ ⟨v1_, rfl, ho_, hb_⟩; refine ⟨_, rfl, ?_⟩; obtain ⟨Av1, cv1, rfl⟩ := Kd.R_slice ho_; have HV1 := Aside0.mk ho_; have HB1 := Aside0.mk (below_step HBa.out hb_); have HO1 := Aside0.mk (Kd.R_below HOa.out hb_); have BE1 := Aside0.mk (blk_below BEa.out hb_); have HR1 := Aside0.mk (Kd.R_below HRa.out hb_); clear ho_ hb_))) | (at_builtin; go_loud ((refine Kd.R_append_rows (Kd.int .u8) (w0 := w) w.heap.size rfl (.tmp 61) (.tmp 64) 43 5 (.int .u8 0) 1 rfl Try.underlying43 info5 rfl (by decide) (by decide) (.slice Ab bs.length cb) (bs) p0 Av1 p0.length cv1 (fun k_ => w.heap.size ≤ k_) (fun _ => False) rfl rfl HO1.out (Kd.R_reads' HV1.out).2.2 (fun _ _ h => h) (fun _ h => h.elim) (fun k hk => Nat.le_trans HB1.out.size hk) HB1.out HB1.out.size (by first | omega | (simp only [List.length_append]; omega)) ?_; intro v2_ w2_ ho_ hb_ hg_ _; have HO2 := Aside0.mk ho_; have HB2 := Aside0.mk hb_; have BE2 := Aside0.mk (blk_grown BE1.out hg_ (Kd.R_ne HO1.out BE1.out (by decide))); have HR2 := Aside0.mk (row_grown HR1.out hg_ HO1.out); clear ho_ hb_ hg_))))
        have BEb := Aside0.mk (blk_drew BE2.out)
        have HOb := Aside0.mk (Kd.R_drew HO2.out)
        have HBb := Aside0.mk (below_drew1 HB2.out)
        have HRb := Aside0.mk (Kd.R_drew HR2.out)
        refine start_ (n := 10) (S := fun w' => w'.cell? ⟨gb, 1, none⟩ = some (.bool h1) ∧ w'.cell? ⟨gb, 2, none⟩ = some (.bool h2)) (ds := []) #[false, false, false, false, false, false, false, false, false, false] (by kernel_rfl) rfl rfl ⟨(blk_cell BEb.out 1).trans rfl, (blk_cell BEb.out 2).trans rfl⟩ (fun hHeld => ?_)
        refine pure_ (i := 0) (N := some 66) (v := ?_) (a' := ?_) #[true, false, false, false, false, false, false, false, false, false] rfl rfl (by kernel_rfl) (fun _ _ _ h => h) (Or.inl ⟨by rfl, ?_⟩) ?_ ?_
        rotate_left
        ·intro w'
         go_simp
         with_reducible rfl
        rotate_left
        ·simp only [Act.put, List.setIfInBounds_toArray, List.set_cons_zero, List.set_cons_succ, i64_w, i32_w]
         rfl
        refine pure_ (i := 1) (N := some 67) (v := ?_) (a' := ?_) #[true, true, false, false, false, false, false, false, false, false] rfl rfl (by kernel_rfl) (fun _ _ _ h => h) (Or.inl ⟨by rfl, ?_⟩) ?_ ?_
        rotate_left
        ·intro w'
         go_simp
         with_reducible rfl
        rotate_left
        ·simp only [Act.put, List.setIfInBounds_toArray, List.set_cons_zero, List.set_cons_succ, i64_w, i32_w]
         rfl
        refine pure_ (i := 5) (N := some 71) (v := ?_) (a' := ?_) #[true, true, false, false, false, true, false, false, false, false] rfl rfl (by kernel_rfl) (fun _ _ _ h => h) (Or.inl ⟨by rfl, ?_⟩) ?_ ?_
        rotate_left
        ·intro w'
         go_simp
         with_reducible rfl
        rotate_left
        ·simp only [Act.put, List.setIfInBounds_toArray, List.set_cons_zero, List.set_cons_succ, i64_w, i32_w]
         rfl
        refine take_ (i := 2) (N := some 68) (v := ?_) (a' := ?_) #[true, true, true, false, false, true, false, false, false, false] rfl rfl (by kernel_rfl) (fun _ _ _ h => h) (Or.inl ⟨by rfl, ?_⟩) hHeld ?_ ?_
        rotate_left
        ·rintro w' ⟨s0, s1⟩
         go_simp
         with_reducible rfl
        rotate_left
        ·simp only [Act.put, List.setIfInBounds_toArray, List.set_cons_zero, List.set_cons_succ, i64_w, i32_w]
         rfl
        refine take_ (i := 6) (N := some 72) (v := ?_) (a' := ?_) #[true, true, true, false, false, true, true, false, false, false] rfl rfl (by kernel_rfl) (fun _ _ _ h => h) (Or.inl ⟨by rfl, ?_⟩) hHeld ?_ ?_
        rotate_left
        ·rintro w' ⟨s0, s1⟩
         go_simp
         with_reducible rfl
        rotate_left
        ·simp only [Act.put, List.setIfInBounds_toArray, List.set_cons_zero, List.set_cons_succ, i64_w, i32_w]
         rfl
        refine one_ (i := 3) (N := some 69) #[true, true, true, true, false, true, true, false, false, false] rfl rfl (by kernel_rfl) (by decide) (fun K hK => ?_)
        refine goes_ Try.func44 (by kernel_rfl) rfl #[.bool h1] (by rfl) rfl rfl (by simp only [List.map_toArray, List.map_cons, List.map_nil]; rfl) ?_
        with_reducible refine (recensionref25_yes.calls k h1 p1 _ D1.out).mono ?_
        rintro e w3_ ⟨v3_, rfl, ho_, hb_⟩
        obtain ⟨Av3, cv3, rfl⟩ := Kd.R_slice ho_
        have HV3 := Aside0.mk ho_
        have HB3 := Aside0.mk (below_step HBb.out hb_)
        have HO3 := Aside0.mk (Kd.R_below HOb.out hb_)
        have BE3 := Aside0.mk (blk_below BEb.out hb_)
        have HR3 := Aside0.mk (Kd.R_below HRb.out hb_)
        clear ho_ hb_
        refine ⟨_, rfl, ?_⟩
        refine hK.out _ _ ⟨(blk_cell BE3.out 1).trans rfl, (blk_cell BE3.out 2).trans rfl⟩ (fun hHeld => ?_)
        clear hK K
        refine norm_ (a' := ?_) ?_ ?_
        rotate_left
        ·show Act.put _ (some 69) _ = _
         simp only [Act.put, List.setIfInBounds_toArray, List.set_cons_zero, List.set_cons_succ, i64_w, i32_w]
         rfl
        refine one_ (i := 4) (N := some 70) #[true, true, true, true, true, true, true, false, false, false] rfl rfl (by kernel_rfl) (by decide) (fun K hK => ?_)
        refine Kd.R_append_rows_step (Kd.int .u8) (w0 := w) w.heap.size (by rfl) (.tmp 66) (.tmp 69) 43 5 (.int .u8 0) 1 rfl Try.underlying43 info5 rfl (by decide) (by decide) v2_ (bs ++ p0) p1 Av3 p1.length cv3 (fun k_ => w.heap.size ≤ k_) (fun _ => False) rfl rfl HO3.out (Kd.R_reads' HV3.out).2.2 (fun _ _ h => h) (fun _ h => h.elim) (fun k hk => Nat.le_trans HB3.out.size hk) HB3.out HB3.out.size (by first | omega | (simp only [List.length_append]; omega)) ?_
        intro v4_ w4_ ho_ hb_ hg_ _
        have HO4 := Aside0.mk ho_
        have HB4 := Aside0.mk hb_
        have BE4 := Aside0.mk (blk_grown BE3.out hg_ (Kd.R_ne HO3.out BE3.out (by decide)))
        have HR4 := Aside0.mk (row_grown HR3.out hg_ HO3.out)
        clear ho_ hb_ hg_
        refine hK.out _ _ ⟨(blk_cell BE4.out 1).trans rfl, (blk_cell BE4.out 2).trans rfl⟩ (fun hHeld => ?_)
        clear hK K
        refine norm_ (a' := ?_) ?_ ?_
        rotate_left
        ·show Act.put _ (some 70) _ = _
         simp only [Act.put, List.setIfInBounds_toArray, List.set_cons_zero, List.set_cons_succ, i64_w, i32_w]
         rfl
        refine one_ (i := 7) (N := some 73) #[true, true, true, true, true, true, true, true, false, false] rfl rfl (by kernel_rfl) (by decide) (fun K hK => ?_)
        refine goes_ Try.func44 (by kernel_rfl) rfl #[.bool h2] (by rfl) rfl rfl (by simp only [List.map_toArray, List.map_cons, List.map_nil]; rfl) ?_
        with_reducible refine (recensionref25_yes.calls k h2 p2 _ D2.out).mono ?_
        rintro e w5_ ⟨v5_, rfl, ho_, hb_⟩
        obtain ⟨Av5, cv5, rfl⟩ := Kd.R_slice ho_
        have HV5 := Aside0.mk ho_
        have HB5 := Aside0.mk (below_step HB4.out hb_)
        have HO5 := Aside0.mk (Kd.R_below HO4.out hb_)
        have BE5 := Aside0.mk (blk_below BE4.out hb_)
        have HR5 := Aside0.mk (Kd.R_below HR4.out hb_)
        clear ho_ hb_
        refine ⟨_, rfl, ?_⟩
        refine hK.out _ _ ⟨(blk_cell BE5.out 1).trans rfl, (blk_cell BE5.out 2).trans rfl⟩ (fun hHeld => ?_)
        clear hK K
        refine norm_ (a' := ?_) ?_ ?_
        rotate_left
        ·show Act.put _ (some 73) _ = _
         simp only [Act.put, List.setIfInBounds_toArray, List.set_cons_zero, List.set_cons_succ, i64_w, i32_w]
         rfl
        refine one_ (i := 8) (N := some 74) #[true, true, true, true, true, true, true, true, true, false] rfl rfl (by kernel_rfl) (by decide) (fun K hK => ?_)
        refine Kd.R_append_rows_step (Kd.int .u8) (w0 := w) w.heap.size (by rfl) (.tmp 70) (.tmp 73) 43 5 (.int .u8 0) 1 rfl Try.underlying43 info5 rfl (by decide) (by decide) v4_ (bs ++ p0 ++ p1) p2 Av5 p2.length cv5 (fun k_ => w.heap.size ≤ k_) (fun _ => False) rfl rfl HO5.out (Kd.R_reads' HV5.out).2.2 (fun _ _ h => h) (fun _ h => h.elim) (fun k hk => Nat.le_trans HB5.out.size hk) HB5.out HB5.out.size (by first | omega | (simp only [List.length_append]; omega)) ?_
        intro v6_ w6_ ho_ hb_ hg_ _
        have HO6 := Aside0.mk ho_
        have HB6 := Aside0.mk hb_
        have BE6 := Aside0.mk (blk_grown BE5.out hg_ (Kd.R_ne HO5.out BE5.out (by decide)))
        have HR6 := Aside0.mk (row_grown HR5.out hg_ HO5.out)
        clear ho_ hb_ hg_
        refine hK.out _ _ ⟨(blk_cell BE6.out 1).trans rfl, (blk_cell BE6.out 2).trans rfl⟩ (fun hHeld => ?_)
        clear hK K
        refine norm_ (a' := ?_) ?_ ?_
        rotate_left
        ·show Act.put _ (some 74) _ = _
         simp only [Act.put, List.setIfInBounds_toArray, List.set_cons_zero, List.set_cons_succ, i64_w, i32_w]
         rfl
        refine pure_ (i := 9) (N := some 3) (v := ?_) (a' := ?_) #[true, true, true, true, true, true, true, true, true, true] rfl rfl (by kernel_rfl) (fun _ _ _ h => h) (Or.inl ⟨by rfl, ?_⟩) ?_ ?_
        rotate_left
        ·intro w'
         go_simp
         with_reducible rfl
        rotate_left
        ·simp only [Act.put, List.setIfInBounds_toArray, List.set_cons_zero, List.set_cons_succ, i64_w, i32_w]
         rfl
        refine done_ (by kernel_rfl) ?_
        go_wp2_with fail
        have BEc := Aside0.mk (blk_drew BE6.out)
        have HOc := Aside0.mk (Kd.R_drew HO6.out)
        have HBc := Aside0.mk (below_drew1 HB6.out)
        have HRc := Aside0.mk (Kd.R_drew HR6.out)
        refine start_ (n := 10) (S := fun w' => w'.cell? ⟨gb, 3, none⟩ = some (.string old) ∧ w'.cell? ⟨gb, 4, none⟩ = some (.string new)) (ds := []) #[false, false, false, false, false, false, false, false, false, false] (by kernel_rfl) rfl rfl ⟨(blk_cell BEc.out 3).trans rfl, (blk_cell BEc.out 4).trans rfl⟩ (fun hHeld => ?_)
        refine pure_ (i := 0) (N := some 75) (v := ?_) (a' := ?_) #[true, false, false, false, false, false, false, false, false, false] rfl rfl (by kernel_rfl) (fun _ _ _ h => h) (Or.inl ⟨by rfl, ?_⟩) ?_ ?_
        rotate_left
        ·intro w'
         go_simp
         with_reducible rfl
        rotate_left
        ·simp only [Act.put, List.setIfInBounds_toArray, List.set_cons_zero, List.set_cons_succ, i64_w, i32_w]
         rfl
        refine pure_ (i := 1) (N := some 76) (v := ?_) (a' := ?_) #[true, true, false, false, false, false, false, false, false, false] rfl rfl (by kernel_rfl) (fun _ _ _ h => h) (Or.inl ⟨by rfl, ?_⟩) ?_ ?_
        rotate_left
        ·intro w'
         go_simp
         with_reducible rfl
        rotate_left
        ·simp only [Act.put, List.setIfInBounds_toArray, List.set_cons_zero, List.set_cons_succ, i64_w, i32_w]
         rfl
        refine pure_ (i := 5) (N := some 80) (v := ?_) (a' := ?_) #[true, true, false, false, false, true, false, false, false, false] rfl rfl (by kernel_rfl) (fun _ _ _ h => h) (Or.inl ⟨by rfl, ?_⟩) ?_ ?_
        rotate_left
        ·intro w'
         go_simp
         with_reducible rfl
        rotate_left
        ·simp only [Act.put, List.setIfInBounds_toArray, List.set_cons_zero, List.set_cons_succ, i64_w, i32_w]
         rfl
        refine take_ (i := 2) (N := some 77) (v := ?_) (a' := ?_) #[true, true, true, false, false, true, false, false, false, false] rfl rfl (by kernel_rfl) (fun _ _ _ h => h) (Or.inl ⟨by rfl, ?_⟩) hHeld ?_ ?_
        rotate_left
        ·rintro w' ⟨s0, s1⟩
         go_simp
         with_reducible rfl
        rotate_left
        ·simp only [Act.put, List.setIfInBounds_toArray, List.set_cons_zero, List.set_cons_succ, i64_w, i32_w]
         rfl
        refine take_ (i := 6) (N := some 81) (v := ?_) (a' := ?_) #[true, true, true, false, false, true, true, false, false, false] rfl rfl (by kernel_rfl) (fun _ _ _ h => h) (Or.inl ⟨by rfl, ?_⟩) hHeld ?_ ?_
        rotate_left
        ·rintro w' ⟨s0, s1⟩
         go_simp
         with_reducible rfl
        rotate_left
        ·simp only [Act.put, List.setIfInBounds_toArray, List.set_cons_zero, List.set_cons_succ, i64_w, i32_w]
         rfl
        refine one_ (i := 3) (N := some 78) #[true, true, true, true, false, true, true, false, false, false] rfl rfl (by kernel_rfl) (by decide) (fun K hK => ?_)
        refine goes_ Try.func43 (by kernel_rfl) rfl #[.string old] (by rfl) rfl rfl (by simp only [List.map_toArray, List.map_cons, List.map_nil]; rfl) ?_
        with_reducible refine (recensionref1_PutText.calls k old p3 _ D3.out).mono ?_
        rintro e w7_ ⟨v7_, rfl, ho_, hb_⟩
        obtain ⟨Av7, cv7, rfl⟩ := Kd.R_slice ho_
        have HV7 := Aside0.mk ho_
        have HB7 := Aside0.mk (below_step HBc.out hb_)
        have HO7 := Aside0.mk (Kd.R_below HOc.out hb_)
        have BE7 := Aside0.mk (blk_below BEc.out hb_)
        have HR7 := Aside0.mk (Kd.R_below HRc.out hb_)
        clear ho_ hb_
        refine ⟨_, rfl, ?_⟩
        refine hK.out _ _ ⟨(blk_cell BE7.out 3).trans rfl, (blk_cell BE7.out 4).trans rfl⟩ (fun hHeld => ?_)
        clear hK K
        refine norm_ (a' := ?_) ?_ ?_
        rotate_left
        ·show Act.put _ (some 78) _ = _
         simp only [Act.put, List.setIfInBounds_toArray, List.set_cons_zero, List.set_cons_succ, i64_w, i32_w]
         rfl
        refine one_ (i := 4) (N := some 79) #[true, true, true, true, true, true, true, false, false, false] rfl rfl (by kernel_rfl) (by decide) (fun K hK => ?_)
        refine Kd.R_append_rows_step (Kd.int .u8) (w0 := w) w.heap.size (by rfl) (.tmp 75) (.tmp 78) 43 5 (.int .u8 0) 1 rfl Try.underlying43 info5 rfl (by decide) (by decide) v6_ (bs ++ p0 ++ p1 ++ p2) p3 Av7 p3.length cv7 (fun k_ => w.heap.size ≤ k_) (fun _ => False) rfl rfl HO7.out (Kd.R_reads' HV7.out).2.2 (fun _ _ h => h) (fun _ h => h.elim) (fun k hk => Nat.le_trans HB7.out.size hk) HB7.out HB7.out.size (by first | omega | (simp only [List.length_append]; omega)) ?_
        intro v8_ w8_ ho_ hb_ hg_ _
        have HO8 := Aside0.mk ho_
        have HB8 := Aside0.mk hb_
        have BE8 := Aside0.mk (blk_grown BE7.out hg_ (Kd.R_ne HO7.out BE7.out (by decide)))
        have HR8 := Aside0.mk (row_grown HR7.out hg_ HO7.out)
        clear ho_ hb_ hg_
        refine hK.out _ _ ⟨(blk_cell BE8.out 3).trans rfl, (blk_cell BE8.out 4).trans rfl⟩ (fun hHeld => ?_)
        clear hK K
        refine norm_ (a' := ?_) ?_ ?_
        rotate_left
        ·show Act.put _ (some 79) _ = _
         simp only [Act.put, List.setIfInBounds_toArray, List.set_cons_zero, List.set_cons_succ, i64_w, i32_w]
         rfl
        refine one_ (i := 7) (N := some 82) #[true, true, true, true, true, true, true, true, false, false] rfl rfl (by kernel_rfl) (by decide) (fun K hK => ?_)
        refine goes_ Try.func43 (by kernel_rfl) rfl #[.string new] (by rfl) rfl rfl (by simp only [List.map_toArray, List.map_cons, List.map_nil]; rfl) ?_
        with_reducible refine (recensionref1_PutText.calls k new p4 _ D4.out).mono ?_
        rintro e w9_ ⟨v9_, rfl, ho_, hb_⟩
        obtain ⟨Av9, cv9, rfl⟩ := Kd.R_slice ho_
        have HV9 := Aside0.mk ho_
        have HB9 := Aside0.mk (below_step HB8.out hb_)
        have HO9 := Aside0.mk (Kd.R_below HO8.out hb_)
        have BE9 := Aside0.mk (blk_below BE8.out hb_)
        have HR9 := Aside0.mk (Kd.R_below HR8.out hb_)
        clear ho_ hb_
        refine ⟨_, rfl, ?_⟩
        refine hK.out _ _ ⟨(blk_cell BE9.out 3).trans rfl, (blk_cell BE9.out 4).trans rfl⟩ (fun hHeld => ?_)
        clear hK K
        refine norm_ (a' := ?_) ?_ ?_
        rotate_left
        ·show Act.put _ (some 82) _ = _
         simp only [Act.put, List.setIfInBounds_toArray, List.set_cons_zero, List.set_cons_succ, i64_w, i32_w]
         rfl
        refine one_ (i := 8) (N := some 83) #[true, true, true, true, true, true, true, true, true, false] rfl rfl (by kernel_rfl) (by decide) (fun K hK => ?_)
        refine Kd.R_append_rows_step (Kd.int .u8) (w0 := w) w.heap.size (by rfl) (.tmp 79) (.tmp 82) 43 5 (.int .u8 0) 1 rfl Try.underlying43 info5 rfl (by decide) (by decide) v8_ (bs ++ p0 ++ p1 ++ p2 ++ p3) p4 Av9 p4.length cv9 (fun k_ => w.heap.size ≤ k_) (fun _ => False) rfl rfl HO9.out (Kd.R_reads' HV9.out).2.2 (fun _ _ h => h) (fun _ h => h.elim) (fun k hk => Nat.le_trans HB9.out.size hk) HB9.out HB9.out.size (by first | omega | (simp only [List.length_append]; omega)) ?_
        intro v10_ w10_ ho_ hb_ hg_ _
        have HO10 := Aside0.mk ho_
        have HB10 := Aside0.mk hb_
        have BE10 := Aside0.mk (blk_grown BE9.out hg_ (Kd.R_ne HO9.out BE9.out (by decide)))
        have HR10 := Aside0.mk (row_grown HR9.out hg_ HO9.out)
        clear ho_ hb_ hg_
        refine hK.out _ _ ⟨(blk_cell BE10.out 3).trans rfl, (blk_cell BE10.out 4).trans rfl⟩ (fun hHeld => ?_)
        clear hK K
        refine norm_ (a' := ?_) ?_ ?_
        rotate_left
        ·show Act.put _ (some 83) _ = _
         simp only [Act.put, List.setIfInBounds_toArray, List.set_cons_zero, List.set_cons_succ, i64_w, i32_w]
         rfl
        refine pure_ (i := 9) (N := some 3) (v := ?_) (a' := ?_) #[true, true, true, true, true, true, true, true, true, true] rfl rfl (by kernel_rfl) (fun _ _ _ h => h) (Or.inl ⟨by rfl, ?_⟩) ?_ ?_
        rotate_left
        ·intro w'
         go_simp
         with_reducible rfl
        rotate_left
        ·simp only [Act.put, List.setIfInBounds_toArray, List.set_cons_zero, List.set_cons_succ, i64_w, i32_w]
         rfl
        refine done_ (by kernel_rfl) ?_
        go_wp2_with fail
        go_roundw
        case rel => exact ⟨z + 1, bs ++ p0 ++ p1 ++ p2 ++ p3 ++ p4, rfl, by omega, by omega, HO10, HB10, HR10, ⟨by rw [show (z + 1).toNat = z.toNat + 1 by omega]; exact D5.out⟩⟩
        case measure => simp [intOf]; omega
       ·rw [if_neg hT4] at hgo
        cases hgo
      ·have hze : z = (y.length : Int) := by omega
       have hr : bs = b4 := by
        have e := HG.out
        rw [hze, Int.toNat_natCast, List.drop_length] at e
        exact Option.some.inj e
       subst hr
       clear HG
       go_wp2_with fail
       go_roundw
       case rel => exact ⟨x + 1, bs, rfl, by omega, by omega, HO, HB, HRW, ⟨by rw [show (x + 1).toNat = x.toNat + 1 by omega]; exact G3.out⟩⟩
       case measure => simp [intOf]; omega
    ·rw [if_neg hT3] at hgo
     cases hgo
   ·have hxe : x = (UR.length : Int) := by omega
    have hr : bs = r := by
     have e := HG.out
     rw [hxe, Int.toNat_natCast, List.drop_length] at e
     exact Option.some.inj e
    subst hr
    clear HG
    go_wp2_with fail
    go_ret
    exact ⟨_, rfl, Kd.R_mono HO.out (fun _ _ => trivial), HB.out⟩
 ·rw [if_neg hT] at hf
  cases hf
/-- What the law keeps: both stacks hold the same steps; no block is both's, but those of steps' changes. -/
def Inv (G : List S56 → Prop) (base : Nat) (W : World) (gs gw : Nat) (P1 P2 : Nat → Prop) (U R : List (List S56)) : Prop :=
 St 63 35 P1 base W gs U R ∧ St 29 37 P2 base W gw U R ∧ (∀ j, P1 j → P2 j → is56 W j) ∧ U.length + R.length ≤ 4 ∧ ∀ x ∈ U ++ R, G x
theorem Inv.below {G : List S56 → Prop} {base : Nat} {W W1 : World} {gs gw : Nat} {P1 P2 : Nat → Prop} {U R : List (List S56)} (h : Inv G base W gs gw P1 P2 U R) (hb : Below W.heap.size W W1) : Inv G base W1 gs gw P1 P2 U R :=
 ⟨h.1.below hb, h.2.1.below hb, fun j h1 h2 => (h.2.2.1 j h1 h2).below hb, h.2.2.2⟩
theorem other_kept {P1 P1' P2 : Nat → Prop} {W W1 : World} {T e base g : Nat} {U R : List (List S56)} (h2 : St T e P2 base W g U R) (ha : ∀ j, P1 j → P2 j → is56 W j) (hk : Kp W W1 P1) (hp : ∀ j, P1' j → P1 j ∨ W.heap.size ≤ j) :
  St T e (fun j => P2 j ∧ j < W.heap.size) base W1 g U R ∧ ∀ j, P1' j → (P2 j ∧ j < W.heap.size) → is56 W1 j := by
 refine ⟨h2.bound.kept hk (fun j hj hS => hS.2 (ha j hS.1 hj.1)), fun j h1 hj => ?_⟩
 rcases hp j h1 with h | h
 ·obtain ⟨c, hc⟩ := ha j h hj.1
  exact ⟨c, (hk.2 j hj.2 (fun hS => hS.2 ⟨c, hc⟩)).trans hc⟩
 ·omega
theorem is56.kept {W W1 : World} {P : Nat → Prop} {j : Nat} (h : is56 W j) (hk : Kp W W1 P) : is56 W1 j := by
 obtain ⟨c, hc⟩ := h
 exact ⟨c, (hk.2 j (blk_lt hc) (fun hS => hS.2 ⟨c, hc⟩)).trans hc⟩
theorem t56 : ∀ q, q ∈ 56 :: k56.E → q = 56 := by decide
theorem R56_kept {W W1 : World} {base : Nat} {ok P : Nat → Prop} {v : Value} {x : List S56} (h : Kd.R k56 56 W base ok v x) (hk : Kp W W1 P) : Kd.R k56 56 W1 base ok v x := by
 refine Kd.R_mono (Kd.R_kept (Kd.R_bound h) hk (fun k hk1 hS => ?_)) (fun k hk => hk.1)
 obtain ⟨_, _, _, q, hq, cells, hc⟩ := hk1
 rw [t56 q hq] at hc
 exact hS.2 ⟨cells, hc⟩
theorem fresh56 {W : World} {base : Nat} {ok : Nat → Prop} {v : Value} {x : List S56} (h : Kd.R k56 56 W base ok v x) : Kd.R k56 56 W base (fun j => base ≤ j ∧ is56 W j) v x := by
 refine Kd.R_mono (Kd.R_bound h) (fun k hk => ⟨hk.2.1, ?_⟩)
 obtain ⟨_, _, _, q, hq, cells, hc⟩ := hk
 rw [t56 q hq] at hc
 exact ⟨cells, hc⟩
theorem St.lower {T e base base' g : Nat} {P : Nat → Prop} {W : World} {U R : List (List S56)} (h : St T e P base W g U R) (hb : base' ≤ base) : St T e P base' W g U R := by
 obtain ⟨h1, h2, vu, vr, h3, h4, h5⟩ := h
 exact ⟨Nat.le_trans hb h1, h2, vu, vr, h3, Kd.Q_lower h4 hb, Kd.Q_lower h5 hb⟩
/-! what a push, an undo, a redo leave -/
def pushU (b : Bool) (U : List (List S56)) (x : List S56) : List (List S56) := if b = true then (U ++ [x]).drop (U.length + 1 - 4) else U
def pushR (b : Bool) (R : List (List S56)) : List (List S56) := if b = true then [] else R
def lastOf (U : List (List S56)) : List S56 := U.getLast?.getD []
def headOf (R : List (List S56)) : List S56 := R.head?.getD []
theorem push_b (k : Nat) (P : Nat → Prop) (base g : Nat) (U R : List (List S56)) (A : Option Addr) (c : Nat) (x : List S56) (b : Bool) (W : World) (h : St 63 35 P base W g U R) (hbase : base ≤ W.heap.size) (hx : Kd.C k56 W A x.length x) (hc : x.length ≤ c) (hM : stack_May.f k x = some b) (hxl : x.length ≤ 1000) (hU : U.length ≤ 1000) :
  Calls Try.prog 14 #[.pointer (some ⟨g, 0, none⟩), .slice A x.length c] W fun e W' => e = .returned (.bool b) ∧ ∃ P' : Nat → Prop, (∀ j, P' j → P j ∨ W.heap.size ≤ j) ∧ St 63 35 P' base W' g (pushU b U x) (pushR b R) ∧ Below base W W' ∧ Kp W W' P := by
 cases b with
 | true => exact (push_yes k P base g U R A c x W h hbase hx hc hM hxl hU).mono fun e W' ⟨h1, h2, h3, h4⟩ => ⟨h1, _, fun j hj => hj, h2, h3, h4⟩
 | false => exact (push_no k g A c x W hx hc hM).mono fun e W' ⟨h1, h2⟩ => ⟨h1, P, fun j hj => .inl hj, h.below h2, h2.mono hbase, Kept.of_below h2 _⟩
theorem rpush_b (k : Nat) (P : Nat → Prop) (base g : Nat) (U R : List (List S56)) (A : Option Addr) (c : Nat) (x : List S56) (b : Bool) (W : World) (h : St 29 37 P base W g U R) (hbase : base ≤ W.heap.size) (hx : Kd.R k56 56 W base P (.slice A x.length c) x) (hM : recensionref25_May.f k x = some b) (hxl : x.length ≤ 1000) (hU : U.length ≤ 4) :
  Calls Try.prog 15 #[.pointer (some ⟨g, 0, none⟩), .slice A x.length c] W fun e W' => e = .returned (.bool b) ∧ ∃ P' : Nat → Prop, (∀ j, P' j → P j ∨ W.heap.size ≤ j) ∧ St 29 37 P' base W' g (pushU b U x) (pushR b R) ∧ Below base W W' ∧ Kp W W' P := by
 cases b with
 | true => exact (rpush_yes k P base g U R A c x W h hbase hx hM hxl hU).mono fun e W' ⟨h1, h2, h3, h4⟩ => ⟨h1, _, fun j hj => hj, h2, h3, h4⟩
 | false => exact (rpush_no k g A c x W (Kd.R_reads' hx).2.2 (Kd.R_reads' hx).2.1 hM).mono fun e W' ⟨h1, h2⟩ => ⟨h1, P, fun j hj => .inl hj, h.below h2, h2.mono hbase, Kept.of_below h2 _⟩
theorem undo_b (P : Nat → Prop) (base g : Nat) (U R : List (List S56)) (W : World) (h : St 63 35 P base W g U R) (hbase : base ≤ W.heap.size) (hl : U.length + R.length ≤ 4) (hx : ∀ x ∈ U ++ R, x.length ≤ 1000) :
  Calls Try.prog 16 #[.pointer (some ⟨g, 0, none⟩)] W fun e W' => ∃ A c, e = .returned (.tuple #[.slice A (lastOf U).length c, .bool (!U.isEmpty)]) ∧ Kd.R k56 56 W' base (fun _ => True) (.slice A (lastOf U).length c) (lastOf U) ∧ ∃ P' : Nat → Prop, (∀ j, P' j → P j ∨ W.heap.size ≤ j) ∧ St 63 35 P' base W' g (U.dropLast) (U.getLast?.toList ++ R) ∧ Below base W W' ∧ Kp W W' P := by
 rcases List.eq_nil_or_concat U with rfl | ⟨V, x, rfl⟩
 ·exact (undo_no P base g R W h).mono fun e W' ⟨h1, h2⟩ => by
   subst h2
   exact ⟨none, 0, h1, Kd.R_nil _ _ _ _ _, P, fun j hj => .inl hj, h, Below.refl _ _, Kept.refl _ _⟩
 ·rw [List.concat_eq_append] at h hl hx ⊢
  rw [List.length_append, List.length_singleton] at hl
  refine (undo_yes P base g V R x W h hbase (by omega) (by omega) (hx x (by simp))).mono ?_
  rintro e W' ⟨v, h1, h2, h3, h4, h5⟩
  obtain ⟨A, c, rfl⟩ := Kd.R_slice h2
  have hq : lastOf (V ++ [x]) = x := by simp [lastOf]
  rw [hq]
  refine ⟨A, c, by rw [h1]; simp, Kd.R_mono (Kd.R_lower h2 hbase) (fun _ _ => trivial), (fun k => P k ∨ (W.heap.size ≤ k ∧ some k ≠ (Value.slice A x.length c).ownBlock)), fun j hj => hj.imp id (fun h => h.1), by simpa using h3, h4, h5⟩
theorem redo_b (P : Nat → Prop) (base g : Nat) (U R : List (List S56)) (W : World) (h : St 63 35 P base W g U R) (hbase : base ≤ W.heap.size) (hl : U.length + R.length ≤ 4) (hx : ∀ x ∈ U ++ R, x.length ≤ 1000) :
  Calls Try.prog 19 #[.pointer (some ⟨g, 0, none⟩)] W fun e W' => ∃ A c, e = .returned (.tuple #[.slice A (headOf R).length c, .bool (!R.isEmpty)]) ∧ Kd.R k56 56 W' base (fun _ => True) (.slice A (headOf R).length c) (headOf R) ∧ ∃ P' : Nat → Prop, (∀ j, P' j → P j ∨ W.heap.size ≤ j) ∧ St 63 35 P' base W' g (U ++ R.head?.toList) (R.tail) ∧ Below base W W' ∧ Kp W W' P := by
 rcases R with _ | ⟨x, R⟩
 ·exact (redo_no P base g U W h).mono fun e W' ⟨h1, h2⟩ => by
   subst h2
   exact ⟨none, 0, h1, Kd.R_nil _ _ _ _ _, P, fun j hj => .inl hj, by simpa using h, Below.refl _ _, Kept.refl _ _⟩
 ·rw [List.length_cons] at hl
  refine (redo_yes P base g U R x W h hbase (by omega) (by omega) (hx x (by simp))).mono ?_
  rintro e W' ⟨v, h1, h2, h3, h4, h5⟩
  obtain ⟨A, c, rfl⟩ := Kd.R_slice h2
  refine ⟨A, c, h1, Kd.R_mono (Kd.R_lower h2 hbase) (fun _ _ => trivial), (fun k => P k ∨ (W.heap.size ≤ k ∧ some k ≠ (Value.slice A x.length c).ownBlock)), fun j hj => hj.imp id (fun h => h.1), h3, h4, h5⟩
theorem rundo_b (P : Nat → Prop) (base g : Nat) (U R : List (List S56)) (W : World) (h : St 29 37 P base W g U R) (hbase : base ≤ W.heap.size) (hl : U.length + R.length ≤ 4) (hx : ∀ x ∈ U ++ R, x.length ≤ 1000) :
  Calls Try.prog 17 #[.pointer (some ⟨g, 0, none⟩)] W fun e W' => ∃ A c, e = .returned (.tuple #[.slice A (lastOf U).length c, .bool (!U.isEmpty)]) ∧ Kd.R k56 56 W' base (fun _ => True) (.slice A (lastOf U).length c) (lastOf U) ∧ ∃ P' : Nat → Prop, (∀ j, P' j → P j ∨ W.heap.size ≤ j) ∧ St 29 37 P' base W' g (U.dropLast) (U.getLast?.toList ++ R) ∧ Below base W W' ∧ Kp W W' P := by
 rcases List.eq_nil_or_concat U with rfl | ⟨V, x, rfl⟩
 ·exact (rundo_no P base g R W h).mono fun e W' ⟨h1, h2⟩ => by
   subst h2
   exact ⟨none, 0, h1, Kd.R_nil _ _ _ _ _, P, fun j hj => .inl hj, h, Below.refl _ _, Kept.refl _ _⟩
 ·rw [List.concat_eq_append] at h hl hx ⊢
  rw [List.length_append, List.length_singleton] at hl
  refine (rundo_yes P base g V R x W h hbase (by omega) (by omega) (hx x (by simp))).mono ?_
  rintro e W' ⟨v, h1, h2, h3, h4, h5⟩
  obtain ⟨A, c, rfl⟩ := Kd.R_slice h2
  have hq : lastOf (V ++ [x]) = x := by simp [lastOf]
  rw [hq]
  refine ⟨A, c, by rw [h1]; simp, Kd.R_mono (Kd.R_lower h2 (Nat.le_refl _)) (fun _ _ => trivial), (fun k => P k ∨ W.heap.size ≤ k), fun j hj => hj, by simpa using h3, h4, h5⟩
theorem rredo_b (P : Nat → Prop) (base g : Nat) (U R : List (List S56)) (W : World) (h : St 29 37 P base W g U R) (hbase : base ≤ W.heap.size) (hl : U.length + R.length ≤ 4) (hx : ∀ x ∈ U ++ R, x.length ≤ 1000) :
  Calls Try.prog 20 #[.pointer (some ⟨g, 0, none⟩)] W fun e W' => ∃ A c, e = .returned (.tuple #[.slice A (headOf R).length c, .bool (!R.isEmpty)]) ∧ Kd.R k56 56 W' base (fun _ => True) (.slice A (headOf R).length c) (headOf R) ∧ ∃ P' : Nat → Prop, (∀ j, P' j → P j ∨ W.heap.size ≤ j) ∧ St 29 37 P' base W' g (U ++ R.head?.toList) (R.tail) ∧ Below base W W' ∧ Kp W W' P := by
 rcases R with _ | ⟨x, R⟩
 ·exact (rredo_no P base g U W h).mono fun e W' ⟨h1, h2⟩ => by
   subst h2
   exact ⟨none, 0, h1, Kd.R_nil _ _ _ _ _, P, fun j hj => .inl hj, by simpa using h, Below.refl _ _, Kept.refl _ _⟩
 ·rw [List.length_cons] at hl
  refine (rredo_yes P base g U R x W h hbase (by omega) (by omega) (hx x (by simp))).mono ?_
  rintro e W' ⟨v, h1, h2, h3, h4, h5⟩
  obtain ⟨A, c, rfl⟩ := Kd.R_slice h2
  refine ⟨A, c, h1, Kd.R_mono (Kd.R_lower h2 (Nat.le_refl _)) (fun _ _ => trivial), (fun k => P k ∨ W.heap.size ≤ k), fun j hj => hj, h3, h4, h5⟩
theorem cv_43 {w : World} {A : Option Addr} {c : Nat} {l : List Int} (h : Kd.C (Kd.int .u8) w A l.length l) : (convert 43 9 (.slice A l.length c)).run Try.prog w = .ok (.string (strOfNums l)) w := Kd.C_string (P := Try.prog) (A := A) (c := c) Try.underlying43 Try.underlying5 Try.underlying9 h
/-- What the law asks of plain Lean. -/
def StepsOK (k : Nat) (G : List S56 → Prop) : Prop := ∀ U R : List (List S56), U.length + R.length ≤ 4 → (∀ x ∈ U ++ R, G x) → ∃ cs, cs.length ≤ 1000000 ∧ stack_enc k U R = some cs ∧ rbytes k U R = some cs ∧ stack_dec k cs = some (some (U, R))
def GoodOK (k : Nat) (G : List S56 → Prop) : Prop := recensionlaw25_eq.f k [] [] = some true ∧ ∀ x, G x → x.length ≤ 1000 ∧ recensionlaw25_eq.f k x x = some true
def OpOK (k : Nat) (G : List S56 → Prop) (o : S32) : Prop := ∃ x b, recensionlaw25_Cut.f k o.f1 = some x ∧ x.length ≤ 1000 ∧ stack_May.f k x = some b ∧ recensionref25_May.f k x = some b ∧ (b = true → G x)
def AllOK (k : Nat) (l : List S32) : Prop := BegunOK k ∧ ∃ G : List S56 → Prop, GoodOK k G ∧ StepsOK k G ∧ ∀ o ∈ l, OpOK k G o
theorem pushU_len {b : Bool} {U : List (List S56)} {x : List S56} {R : List (List S56)} (h : U.length + R.length ≤ 4) : (pushU b U x).length + (pushR b R).length ≤ 4 := by
 unfold pushU pushR
 cases b
 ·simpa using h
 ·simp; omega
theorem pushU_good {G : List S56 → Prop} {b : Bool} {U : List (List S56)} {x : List S56} {R : List (List S56)} (h : ∀ y ∈ U ++ R, G y) (hx : b = true → G x) : ∀ y ∈ pushU b U x ++ pushR b R, G y := by
 unfold pushU pushR
 cases b
 ·simpa using h
 ·intro y hy
  simp only [if_true, List.append_nil] at hy
  have := List.mem_of_mem_drop hy
  rcases List.mem_append.1 this with h1 | h1
  ·exact h y (List.mem_append_left _ h1)
  ·rw [List.mem_singleton] at h1; subst h1; exact hx rfl
theorem undo_len {U R : List (List S56)} (h : U.length + R.length ≤ 4) : (U.dropLast).length + (U.getLast?.toList ++ R).length ≤ 4 := by
 rcases List.eq_nil_or_concat U with rfl | ⟨V, x, rfl⟩
 ·simpa using h
 ·simp at h ⊢; omega
theorem undo_good {G : List S56 → Prop} {U R : List (List S56)} (h : ∀ y ∈ U ++ R, G y) : ∀ y ∈ U.dropLast ++ (U.getLast?.toList ++ R), G y := by
 rcases List.eq_nil_or_concat U with rfl | ⟨V, x, rfl⟩
 ·simpa using h
 ·intro y hy; simp at hy h; grind
theorem redo_len {U R : List (List S56)} (h : U.length + R.length ≤ 4) : (U ++ R.head?.toList).length + R.tail.length ≤ 4 := by
 cases R <;> simp at h ⊢ <;> omega
theorem redo_good {G : List S56 → Prop} {U R : List (List S56)} (h : ∀ y ∈ U ++ R, G y) : ∀ y ∈ (U ++ R.head?.toList) ++ R.tail, G y := by
 cases R <;> simpa using h
theorem lastOf_eq {k : Nat} {G : List S56 → Prop} {U R : List (List S56)} (hG : GoodOK k G) (h : ∀ y ∈ U ++ R, G y) : recensionlaw25_eq.f k (lastOf U) (lastOf U) = some true := by
 rcases List.eq_nil_or_concat U with rfl | ⟨V, x, rfl⟩
 ·exact hG.1
 ·rw [show lastOf (V.concat x) = x by simp [lastOf]]
  exact (hG.2 x (h x (by simp))).2
theorem headOf_eq {k : Nat} {G : List S56 → Prop} {U R : List (List S56)} (hG : GoodOK k G) (h : ∀ y ∈ U ++ R, G y) : recensionlaw25_eq.f k (headOf R) (headOf R) = some true := by
 rcases R with _ | ⟨x, R⟩
 ·exact hG.1
 ·exact (hG.2 x (h x (by simp))).2
def recensionlaw25_StackAll.T27 : Bool × List (List Nat × List Nat) := (true, [([], []), ([], []), ([1], [1]), ([2], [2]), ([3], [3]), ([4], [4]), ([0, 5], [0, 5]), ([6], [6]), ([7], [7]), ([7], [7]), ([9, 7], [7, 9]), ([10, 7], [7, 10]), ([11, 7], [7, 11]), ([12, 7], [7, 12]), ([8, 13, 7], [7, 8, 13]), ([7, 14], [7, 14]), ([15, 7], [15]), ([16], [16]), ([16], [16]), ([17, 18, 16], [16, 17, 18]), ([19, 16], [16, 19]), ([16, 20], [16, 20]), ([21, 16], [21]), ([22], [22]), ([23, 22], [22, 23]), ([22], [22]), ([25, 22, 22], [22, 25]), ([26, 22], [22, 26]), ([24, 27, 22], [22, 24, 27]), ([22, 28], [22, 28]), ([29, 26], [29]), ([30], [30]), ([31, 30], [30, 31]), ([30, 32], [30, 32]), ([33, 30], [33]), ([34], [34]), ([35, 34, 34], [34, 35]), ([36, 34], [34, 36]), ([34], [34]), ([38, 34], [34, 38]), ([37, 39, 34], [34, 37, 39]), ([34, 40], [34, 40])])
def recensionlaw25_StackAll.B27 : List Nat := [0, 0, 2, 6, 14, 30, 63, 127, 255, 255, 767, 1791, 3839, 7935, 16383, 32767, 65535, 131071, 131071, 524287, 1048575, 2097151, 4194303, 8388607, 16777215, 8388607, 41943039, 109051903, 268435455, 536870911, 1073741823, 2147483647, 4294967295, 8589934591, 17179869183, 34359738367, 68719476735, 137438953471, 34359738367, 309237645311, 1099511627775, 2199023255551]
theorem recensionlaw25_StackAll.tab27 : rtab .any (opsOf Try.f3 27) = recensionlaw25_StackAll.T27 := by kernel_rfl
theorem recensionlaw25_StackAll.bits27 : waitsOk recensionlaw25_StackAll.T27.2 recensionlaw25_StackAll.B27 = true := by kernel_rfl
set_option maxHeartbeats 16000000 in
set_option maxRecDepth 100000 in
theorem all_walk (k : Nat) (A0 : Option Addr) (c0 : Nat) (ops : List S32) (w : World) (hr0 : Kd.C k32 w A0 ops.length ops) (hc0 : ops.length ≤ c0) (h : AllOK k ops) :
  Calls Try.prog 3 #[.slice A0 ops.length c0] w fun e w' => e = .returned (.bool true) ∧ Below w.heap.size w w' := by
 obtain ⟨hbeg, G, hgo, hst, hop⟩ := h
 have HR0 := Aside0.mk hr0
 have HC0 := Aside0.mk hc0
 have HBG := Aside0.mk hbeg
 have HGO := Aside0.mk hgo
 have HST := Aside0.mk hst
 have HOP := Aside0.mk hop
 clear hr0 hc0 hbeg hgo hst hop
 go_enter Try.func3, Try.ntmps3
 go_wp2_with fail
 refine (begun_ok HBG.out _).mono ?_
 rintro e w1 ⟨rfl, hb⟩
 have B1 := Aside0.mk hb
 clear hb
 go_wp2_with fail
 refine (st_new w.heap.size _ B1.out.size).mono ?_
 rintro e w2 ⟨rfl, hs2, hb⟩
 have S2 := Aside0.mk hs2
 have B2 := Aside0.mk (below_step B1.out hb)
 obtain ⟨gs, hg⟩ : ∃ gs, w1.heap.size = gs := ⟨_, rfl⟩
 rw [hg] at S2 ⊢
 clear hs2 hb hg
 go_wp2_with fail
 have hl2 := S2.out.lt
 have HI0 := Aside0.mk (show Inv G w.heap.size (w2.alloc (.cells #[.slice none 0 0, .slice none 0 0] 29)) gs w2.heap.size (fun k => gs ≤ k ∧ k < w2.heap.size) (fun j => j = w2.heap.size) [] [] from
  ⟨S2.out.bound.alloc _, ⟨B2.out.size, rfl, _, _, heap_alloc_new w2 _, Kd.Q_nil _ _ _ _ _, Kd.Q_nil _ _ _ _ _⟩, fun j h1 h2 => by omega, by simp, by simp⟩)
 have HB0 := Aside0.mk (below_alloc B2.out (.cells #[.slice none 0 0, .slice none 0 0] 29))
 obtain ⟨gw, hgw⟩ : ∃ gw, w2.heap.size = gw := ⟨_, rfl⟩
 rw [hgw] at HI0 ⊢
 clear hl2 S2 B2 hgw
 go_loopw [4, 6] (fun sv iv wr => ∃ (i : Int) (gs : Nat) (P1 P2 : Nat → Prop) (U R : List (List S56)), sv = .pointer (some ⟨gs, 0, none⟩) ∧ iv = .int .i64 i ∧ 0 ≤ i ∧ i ≤ ops.length ∧ Aside0 (Inv G w.heap.size wr gs gw P1 P2 U R) ∧ Aside0 (Below w.heap.size w wr)) (fun _ iv _ => ops.length - (intOf iv).toNat)
 case atStart => exact ⟨0, gs, _, _, [], [], rfl, rfl, Int.le_refl _, by omega, HI0, HB0⟩
 case round =>
  clear HI0 HB0
  obtain ⟨i, gs, P1, P2, U, R, rfl, rfl, i0, il, HI, HBW⟩ := hrel
  by_cases hlt : i < (ops.length : Int)
  ·have b1 : decide (i < (ops.length : Int)) = true := decide_eq_true hlt
   by_cases h50 : i < 50
   ·have b2 : decide (i < 50) = true := decide_eq_true h50
    obtain ⟨ad, Ao, co, rfl, o0, o1, hlo, hco⟩ := at_T32 HR0.out i i0 hlt
    replace o0 := (HBW.out.cell (World.block_lt_of_cell? w _ o0)).trans o0
    replace o1 := (HBW.out.cell (World.block_lt_of_cell? w _ o1)).trans o1
    have hmem : rd_T32 ops i ∈ ops := by
     have hl : i.toNat < ops.length := by omega
     unfold rd_T32
     rw [List.getD_eq_getElem?_getD, List.getElem?_eq_getElem hl]
     exact List.getElem_mem hl
    obtain ⟨x, b, hcut1, hxl, hm1, hm2, hgx⟩ := HOP.out _ hmem
    have HI0 := Aside0.mk (And.intro i0 hlt)
    generalize rd_T32 ops i = oo at o0 o1 hlo hco hcut1
    obtain ⟨kd, lo⟩ := oo
    dsimp only at o0 o1 hlo hco hcut1
    have HLO := Aside0.mk hco
    have HLC := Aside0.mk hlo
    have HCUT := Aside0.mk hcut1
    have HXL := Aside0.mk hxl
    have HM1 := Aside0.mk hm1
    have HM2 := Aside0.mk hm2
    have HGX := Aside0.mk hgx
    have p1 := eq_true i0
    have p2 := eq_true hlt
    have e12 : IntKind.i64.wrap (i + 1) = i + 1 := IntWalk.i64_in _ (by have := HR0.out.2.1; omega)
    clear hmem hlo hco hcut1 hxl hm1 hm2 hgx i0 hlt h50 il
    go_upto_block 2 with (first | ((with_reducible refine gate_dst (N := 7) rfl ?_); (try (refine gate_guard (by rfl) ?_; dsimp only)); refine box_event ?hg (N := 7) ?hd (cs := #[.int .i64 0, .slice none 0 0]) (t := 32) ?hr ?_; (case hd => rfl); (case hg => rfl); (case hr => first | (go_simp; done) | (go_simp; rfl)); intro gb hg w12 hbox hb; have HBL := Aside0.mk hb; have BK := Aside0.mk hbox; have GE := Aside0.mk (show wr.heap.size ≤ gb from by rw [hg]; exact Nat.le_refl _); clear hb hbox hg; have z0 : w12.cell? ⟨gb, 0, none⟩ = some (.int .i64 0) := (blk_cell BK.out 0).trans rfl; have z1 : w12.cell? ⟨gb, 1, none⟩ = some (.slice none 0 0) := (blk_cell BK.out 1).trans rfl; have f0 := blk_frozen BK.out 0; have f1 := blk_frozen BK.out 1) | ((with_reducible refine gate_store (t := 32) (p := 7) rfl ?_); refine store_event (t := 32) (p := 7) (v := ?vo_w14) (w1 := ((w12.setCell ⟨gb, 0, none⟩ (.int .i64 kd)).setCell ⟨gb, 1, none⟩ (.slice Ao lo.length co))) ?hg ?ho ?hn ?hr ?_; (case ho => rfl); (case hg => rfl); (case hn => rfl); (case hr => first | (go_simp; done) | (go_simp; rfl)); intro w14 hw; have BK2 := Aside0.mk (show w14.heap[gb]? = some (.cells #[.int .i64 kd, .slice Ao lo.length co] 32 (0, 0)) from by rw [hw]; exact blk_put (cs := #[.int .i64 kd, .slice none 0 0]) (blk_put BK.out 0 (.int .i64 kd) rfl) 1 (.slice Ao lo.length co) rfl); have HBL2 := Aside0.mk (show Below wr.heap.size wr w14 from by rw [hw]; exact below_set (below_set HBL.out GE.out) GE.out); clear hw z0 z1 f0 f1 BK HBL; have y1 : w14.cell? ⟨gb, 1, none⟩ = some (.slice Ao lo.length co) := (blk_cell BK2.out 1).trans rfl) | ((with_reducible refine gate_callee (f := 11) rfl ?_); refine goesL_ (some 44) rfl rfl Try.func11 (by kernel_rfl) rfl #[.slice Ao lo.length co] rfl (by (try simp only [List.map_toArray, List.map_cons, List.map_nil]); first | done | rfl) ?_; go_loud (((with_reducible refine (recensionlaw25_Cut.calls k Ao co lo x _ (Kd.C_below HLO.out (HBW.out.trans (HBL2.out.mono HBW.out.size))) HLC.out HCUT.out).mono ?_); rintro e w15 ⟨v15, rfl, ho_, hb_⟩; refine ⟨_, rfl, ?_⟩; obtain ⟨Ax, cx, rfl⟩ := Kd.R_slice ho_; have HX := Aside0.mk (fresh56 (Kd.R_lower ho_ (Nat.le_trans HBW.out.size HBL2.out.size))); have HI5 := Aside0.mk ((HI.out.below HBL2.out).below hb_); have HB5 := Aside0.mk (below_step (HBW.out.trans (HBL2.out.mono HBW.out.size)) hb_); have y0 : w15.cell? ⟨gb, 0, none⟩ = some (.int .i64 kd) := (blk_cell (blk_below BK2.out hb_) 0).trans rfl; clear ho_ hb_ HI HBW HBL2 y1))))
    go_cut [9] (fun _ wc => ∃ (P1 P2 : Nat → Prop) (U R : List (List S56)), Aside0 (Inv G w.heap.size wc gs gw P1 P2 U R) ∧ Aside0 (Below w.heap.size w wc))
    case first =>
     by_cases k0 : kd = 0
     ·have kb : (kd == 0) = true := beq_iff_eq.mpr k0
      have hbb : (b != b) = false := by simp
      have HI6 := HI5
      have HB6 := HB5
      have HX5 := HX
      clear k0 HI5 HB5 HX
      go_wp2_with fail
      refine (stack_May.calls k Ax cx x b _ (Kd.R_reads' HX5.out).2.2 (Kd.R_reads' HX5.out).2.1 HM1.out).mono ?_
      rintro e w1 ⟨rfl, hb⟩
      have HI1 := Aside0.mk (HI6.out.below hb)
      have HB1 := Aside0.mk (below_step HB6.out hb)
      have HX1 := Aside0.mk (Kd.R_below HX5.out hb)
      clear hb HI6 HB6 HX5
      go_wp2_with fail
      refine (recensionref25_May.calls k Ax cx x b _ (Kd.R_reads' HX1.out).2.2 (Kd.R_reads' HX1.out).2.1 HM2.out).mono ?_
      rintro e w2 ⟨rfl, hb⟩
      have HI2 := Aside0.mk (HI1.out.below hb)
      have HB2 := Aside0.mk (below_step HB1.out hb)
      have HX2 := Aside0.mk (Kd.R_below HX1.out hb)
      clear hb HI1 HB1 HX1
      go_wp2_with fail
      refine (push_b k P1 w.heap.size gs U R Ax cx x b w2 HI2.out.1 HB2.out.size (Kd.R_reads' HX2.out).2.2 (Kd.R_reads' HX2.out).2.1 HM1.out HXL.out (by have := HI2.out.2.2.2.1; omega)).mono ?_
      rintro e w3 ⟨rfl, P3, hp3, hs3, hb3, hk3⟩
      have hot := other_kept HI2.out.2.1 HI2.out.2.2.1 hk3 hp3
      have HS3 := Aside0.mk hs3
      have HT3 := Aside0.mk hot.1
      have HA3 := Aside0.mk hot.2
      have HX3 := Aside0.mk (fresh56 (R56_kept HX2.out hk3))
      have HB3 := Aside0.mk (HB2.out.trans hb3)
      have HZ3 := Aside0.mk (HI2.out.2.2.2)
      clear hot hs3 hb3 hk3 hp3 HI2 HB2 HX2
      go_wp2_with fail
      refine (rpush_b k (fun j => (P2 j ∧ j < w2.heap.size) ∨ (w.heap.size ≤ j ∧ is56 w3 j)) w.heap.size gw U R Ax cx x b w3 (HT3.out.mono (fun j hj => .inl hj)) HB3.out.size (Kd.R_mono HX3.out (fun j hj => .inr hj)) HM2.out HXL.out (by have := HZ3.out.1; omega)).mono ?_
      rintro e w4 ⟨rfl, P4, hp4, hs4, hb4, hk4⟩
      have hot := other_kept HS3.out (fun j h1 h2 => h1.elim (fun h => HA3.out j h2 h) (fun h => h.2)) hk4 hp4
      have HI4 := Aside0.mk (show Inv G w.heap.size w4 gs gw _ P4 (pushU b U x) (pushR b R) from ⟨hot.1, hs4, fun j h1 h2 => hot.2 j h2 h1, pushU_len HZ3.out.1, pushU_good HZ3.out.2 HGX.out⟩)
      have HB4 := Aside0.mk (HB3.out.trans hb4)
      clear hot hs4 hb4 hk4 hp4 HS3 HT3 HA3 HX3 HB3 HZ3
      go_wp2_with fail
      go_meet
      case rel => exact ⟨_, P4, _, _, HI4, HB4⟩
     ·have kb : (kd == 0) = false := by simpa using k0
      by_cases k1 : kd = 1
      ·have kb1 : (kd == 1) = true := beq_iff_eq.mpr k1
       clear k0 k1
       go_wp2_with fail
       refine (undo_b P1 w.heap.size gs U R _ HI5.out.1 HB5.out.size HI5.out.2.2.2.1 (fun y hy => (HGO.out.2 y (HI5.out.2.2.2.2 y hy)).1)).mono ?_
       rintro e w1 ⟨A1, c1, rfl, hx1, P3, hp3, hs3, hb3, hk3⟩
       have hot := other_kept HI5.out.2.1 HI5.out.2.2.1 hk3 hp3
       have HS3 := Aside0.mk hs3
       have HT3 := Aside0.mk hot.1
       have HA3 := Aside0.mk hot.2
       have HX1 := Aside0.mk hx1
       have HB3 := Aside0.mk (HB5.out.trans hb3)
       have HZ3 := Aside0.mk (HI5.out.2.2.2)
       clear hot hs3 hb3 hk3 hp3 hx1 HI5
       go_wp2_with fail
       refine (rundo_b _ w.heap.size gw U R _ HT3.out HB3.out.size HZ3.out.1 (fun y hy => (HGO.out.2 y (HZ3.out.2 y hy)).1)).mono ?_
       rintro e w2 ⟨A2, c2, rfl, hx2, P4, hp4, hs4, hb4, hk4⟩
       have hot := other_kept HS3.out (fun j h1 h2 => HA3.out j h2 h1) hk4 hp4
       have HI4 := Aside0.mk (show Inv G w.heap.size w2 gs gw _ P4 (U.dropLast) (U.getLast?.toList ++ R) from ⟨hot.1, hs4, fun j h1 h2 => hot.2 j h2 h1, undo_len HZ3.out.1, undo_good HZ3.out.2⟩)
       have HX1' := Aside0.mk (R56_kept HX1.out hk4)
       have HX2 := Aside0.mk hx2
       have HB4 := Aside0.mk (HB3.out.trans hb4)
       clear hot hs4 hb4 hk4 hp4 hx2
       obtain ⟨y, hy⟩ : ∃ y, lastOf U = y := ⟨_, rfl⟩
       have HE := Aside0.mk (show recensionlaw25_eq.f k y y = some true from by rw [← hy]; exact lastOf_eq HGO.out HZ3.out.2)
       rw [hy] at HX1' HX2 ⊢
       obtain ⟨q, hq⟩ : ∃ q, U.isEmpty = q := ⟨_, rfl⟩
       rw [hq]
       clear hy hq HX1
       go_wp2_with (go_at_call 18; refine (recensionlaw25_eq.calls k A1 c1 y A2 c2 y true _ (Kd.R_reads' HX1'.out).2.2 (Kd.R_reads' HX1'.out).2.1 (Kd.R_reads' HX2.out).2.2 (Kd.R_reads' HX2.out).2.1 HE.out).mono ?_; rintro e w3 ⟨rfl, ⟨n3, rfl⟩⟩)
       go_meet
       case rel => exact ⟨_, _, _, _, ⟨HI4.out.below (pw_below_drewN (Below.refl _ _) n3)⟩, ⟨pw_below_drewN HB4.out n3⟩⟩
      ·have kb1 : (kd == 1) = false := by simpa using k1
       clear k0 k1
       go_wp2_with fail
       refine (redo_b P1 w.heap.size gs U R _ HI5.out.1 HB5.out.size HI5.out.2.2.2.1 (fun y hy => (HGO.out.2 y (HI5.out.2.2.2.2 y hy)).1)).mono ?_
       rintro e w1 ⟨A1, c1, rfl, hx1, P3, hp3, hs3, hb3, hk3⟩
       have hot := other_kept HI5.out.2.1 HI5.out.2.2.1 hk3 hp3
       have HS3 := Aside0.mk hs3
       have HT3 := Aside0.mk hot.1
       have HA3 := Aside0.mk hot.2
       have HX1 := Aside0.mk hx1
       have HB3 := Aside0.mk (HB5.out.trans hb3)
       have HZ3 := Aside0.mk (HI5.out.2.2.2)
       clear hot hs3 hb3 hk3 hp3 hx1 HI5
       go_wp2_with fail
       refine (rredo_b _ w.heap.size gw U R _ HT3.out HB3.out.size HZ3.out.1 (fun y hy => (HGO.out.2 y (HZ3.out.2 y hy)).1)).mono ?_
       rintro e w2 ⟨A2, c2, rfl, hx2, P4, hp4, hs4, hb4, hk4⟩
       have hot := other_kept HS3.out (fun j h1 h2 => HA3.out j h2 h1) hk4 hp4
       have HI4 := Aside0.mk (show Inv G w.heap.size w2 gs gw _ P4 (U ++ R.head?.toList) R.tail from ⟨hot.1, hs4, fun j h1 h2 => hot.2 j h2 h1, redo_len HZ3.out.1, redo_good HZ3.out.2⟩)
       have HX1' := Aside0.mk (R56_kept HX1.out hk4)
       have HX2 := Aside0.mk hx2
       have HB4 := Aside0.mk (HB3.out.trans hb4)
       clear hot hs4 hb4 hk4 hp4 hx2
       obtain ⟨y, hy⟩ : ∃ y, headOf R = y := ⟨_, rfl⟩
       have HE := Aside0.mk (show recensionlaw25_eq.f k y y = some true from by rw [← hy]; exact headOf_eq HGO.out HZ3.out.2)
       rw [hy] at HX1' HX2 ⊢
       obtain ⟨q, hq⟩ : ∃ q, R.isEmpty = q := ⟨_, rfl⟩
       rw [hq]
       clear hy hq HX1
       go_wp2_with (go_at_call 18; refine (recensionlaw25_eq.calls k A1 c1 y A2 c2 y true _ (Kd.R_reads' HX1'.out).2.2 (Kd.R_reads' HX1'.out).2.1 (Kd.R_reads' HX2.out).2.2 (Kd.R_reads' HX2.out).2.1 HE.out).mono ?_; rintro e w3 ⟨rfl, ⟨n3, rfl⟩⟩)
       go_meet
       case rel => exact ⟨_, _, _, _, ⟨HI4.out.below (pw_below_drewN (Below.refl _ _) n3)⟩, ⟨pw_below_drewN HB4.out n3⟩⟩
    case rest =>
     clear HX HI5 HB5 HXL HM1 HM2 HGX HCUT HLO HLC o0 o1 y0
     obtain ⟨P1, P2, U, R, HI, HBW⟩ := hcut
     obtain ⟨cs, hcl, hen, hrb, hde⟩ := HST.out U R HI.out.2.2.2.1 HI.out.2.2.2.2
     have HEN := Aside0.mk hen
     have HRB := Aside0.mk hrb
     have HDE := Aside0.mk hde
     clear hcl hen hrb hde
     go_wp2_with fail
     refine (enc_yes k P1 w.heap.size gs U R cs _ HI.out.1 (by have := HI.out.2.2.2.1; omega) (by have := HI.out.2.2.2.1; omega) (fun y hy => (HGO.out.2 y (HI.out.2.2.2.2 y hy)).1) HEN.out).mono ?_
     rintro e w5 ⟨v5, rfl, ho, hb⟩
     obtain ⟨Ab, cb, rfl⟩ := Kd.R_slice ho
     have HCL := Aside0.mk (Kd.R_reads' ho).2.1
     have HCB := Aside0.mk (Kd.R_reads' ho).2.2
     have HI5 := Aside0.mk (HI.out.below hb)
     have HB5 := Aside0.mk (below_step HBW.out hb)
     obtain ⟨Au, cu, Ar, cr, hbw⟩ : ∃ Au cu Ar cr, w5.heap[gw]? = some (.cells #[.slice Au U.length cu, .slice Ar R.length cr] 29 (0, 0)) := by
      obtain ⟨_, _, vu, vr, h3, h4, h5⟩ := HI5.out.2.1
      obtain ⟨Au, cu, rfl, _⟩ := Kd.Q_slice h4
      obtain ⟨Ar, cr, rfl, _⟩ := Kd.Q_slice h5
      exact ⟨Au, cu, Ar, cr, h3⟩
     have BW := Aside0.mk hbw
     clear ho hb HI HBW hbw
     go_wp2_with fail
     refine (dec_any k Ab cb cs _ HCB.out HCL.out _ HDE.out).mono ?_
     rintro e w6 ⟨v6, ee, rfl, ⟨gt, rfl, rfl, ht⟩, hb⟩
     have HT6 := Aside0.mk (show St 63 35 (fun k => w5.heap.size ≤ k) w5.heap.size w6 gt U R from ht)
     have HQ6 := Aside0.mk hb
     have HI6 := Aside0.mk (HI5.out.below hb)
     clear ht hb
     go_wp2_with fail
     refine (len_yes P1 _ gs U R w6 HI6.out.1).mono ?_
     rintro e w6b ⟨rfl, ⟨n7, rfl⟩⟩
     have e1 : IntKind.i64.wrap ((U.length : Int) + (R.length : Int)) = (U.length : Int) + (R.length : Int) := IntWalk.i64_in _ (by have := HI5.out.2.2.2.1; omega)
     have l4 : (4 < (U.length : Int) + (R.length : Int)) = False := eq_false (by have := HI5.out.2.2.2.1; omega)
     have l4b : decide (4 < (U.length : Int) + (R.length : Int)) = false := decide_eq_false (by have := HI5.out.2.2.2.1; omega)
     go_wp2_with fail
     have hl4 := HI5.out.2.2.2.1
     have HGL := Aside0.mk (fun y hy => (HGO.out.2 y (HI5.out.2.2.2.2 y hy)).1 : ∀ y ∈ U ++ R, y.length ≤ 1000)
     have HI7 := Aside0.mk (HI6.out.below (below_drew1 (pw_below_drewN (Below.refl _ _) n7)))
     have HT7 := Aside0.mk (HT6.out.below (below_drew1 (pw_below_drewN (Below.refl _ _) n7)))
     have HQ7 := Aside0.mk (below_drew1 (pw_below_drewN HQ6.out n7))
     clear HI6 HT6 HQ6
     refine start_ (n := 42) (S := fun w' => w'.cell? ⟨gw, 0, none⟩ = some (.slice Au U.length cu) ∧ w'.cell? ⟨gw, 1, none⟩ = some (.slice Ar R.length cr) ∧ (convert 43 9 (.slice Ab cs.length cb)).run Try.prog w' = .ok (.string (strOfNums cs)) w') (ds := []) #[false, false, false, false, false, false, false, false, false, false, false, false, false, false, false, false, false, false, false, false, false, false, false, false, false, false, false, false, false, false, false, false, false, false, false, false, false, false, false, false, false, false] (by kernel_rfl) rfl rfl ⟨(blk_cell (blk_below BW.out HQ7.out) 0).trans rfl, (blk_cell (blk_below BW.out HQ7.out) 1).trans rfl, (cv_43 (Kd.C_below HCB.out HQ7.out))⟩ (fun hHeld => ?_); refine with_tabW recensionlaw25_StackAll.tab27 recensionlaw25_StackAll.bits27 (fun HT_ HW_ => ?_)
     generalize (w6.drewN n7).drew = w7 at HI7 HT7 HQ7 hHeld ⊢
     have HW7 := Aside0.mk HI7.out.2.1
     refine pure_ (i := 0) (N := some 115) (v := ?_) (a' := ?_) #[true, false, false, false, false, false, false, false, false, false, false, false, false, false, false, false, false, false, false, false, false, false, false, false, false, false, false, false, false, false, false, false, false, false, false, false, false, false, false, false, false, false] rfl rfl (any_of HT_.out (by kernel_rfl)) (fun _ _ _ h => h) (Or.inl ⟨by rfl, ?_⟩) ?_ ?_
     rotate_left
     ·intro w'
      go_simp
      with_reducible rfl
     rotate_left
     ·simp only [Act.put, List.setIfInBounds_toArray, List.set_cons_zero, List.set_cons_succ, i64_w, i32_w]
      rfl
     refine pure_ (i := 1) (N := some 116) (v := ?_) (a' := ?_) #[true, true, false, false, false, false, false, false, false, false, false, false, false, false, false, false, false, false, false, false, false, false, false, false, false, false, false, false, false, false, false, false, false, false, false, false, false, false, false, false, false, false] rfl rfl (any_of HT_.out (by kernel_rfl)) (fun _ _ _ h => h) (Or.inl ⟨by rfl, ?_⟩) ?_ ?_
     rotate_left
     ·intro w'
      go_simp
      with_reducible rfl
     rotate_left
     ·simp only [Act.put, List.setIfInBounds_toArray, List.set_cons_zero, List.set_cons_succ, i64_w, i32_w]
      rfl
     refine pure_ (i := 2) (N := some 117) (v := ?_) (a' := ?_) #[true, true, true, false, false, false, false, false, false, false, false, false, false, false, false, false, false, false, false, false, false, false, false, false, false, false, false, false, false, false, false, false, false, false, false, false, false, false, false, false, false, false] rfl rfl (any_of HT_.out (by kernel_rfl)) (fun _ _ _ h => h) (Or.inl ⟨by rfl, ?_⟩) ?_ ?_
     rotate_left
     ·intro w'
      go_simp
      with_reducible rfl
     rotate_left
     ·simp only [Act.put, List.setIfInBounds_toArray, List.set_cons_zero, List.set_cons_succ, i64_w, i32_w]
      rfl
     refine pure_ (i := 3) (N := some 118) (v := ?_) (a' := ?_) #[true, true, true, true, false, false, false, false, false, false, false, false, false, false, false, false, false, false, false, false, false, false, false, false, false, false, false, false, false, false, false, false, false, false, false, false, false, false, false, false, false, false] rfl rfl (any_of HT_.out (by kernel_rfl)) (fun _ _ _ h => h) (Or.inl ⟨by rfl, ?_⟩) ?_ ?_
     rotate_left
     ·intro w'
      go_simp
      with_reducible rfl
     rotate_left
     ·simp only [Act.put, List.setIfInBounds_toArray, List.set_cons_zero, List.set_cons_succ, i64_w, i32_w]
      rfl
     refine take_ (i := 4) (N := some 119) (v := ?_) (a' := ?_) #[true, true, true, true, true, false, false, false, false, false, false, false, false, false, false, false, false, false, false, false, false, false, false, false, false, false, false, false, false, false, false, false, false, false, false, false, false, false, false, false, false, false] rfl rfl (take_ofW HT_.out HW_.out (by kernel_rfl)) (fun _ _ _ h => h) (Or.inl ⟨by rfl, ?_⟩) hHeld ?_ ?_
     rotate_left
     ·rintro w' ⟨s0, s1, s2⟩
      go_simp
      with_reducible rfl
     rotate_left
     ·simp only [Act.put, List.setIfInBounds_toArray, List.set_cons_zero, List.set_cons_succ, i64_w, i32_w]
      rfl
     refine pure_ (i := 5) (N := some 120) (v := ?_) (a' := ?_) #[true, true, true, true, true, true, false, false, false, false, false, false, false, false, false, false, false, false, false, false, false, false, false, false, false, false, false, false, false, false, false, false, false, false, false, false, false, false, false, false, false, false] rfl rfl (any_of HT_.out (by kernel_rfl)) (fun _ _ _ h => h) (Or.inl ⟨by rfl, ?_⟩) ?_ ?_
     rotate_left
     ·intro w'
      go_simp
      with_reducible rfl
     rotate_left
     ·simp only [Act.put, List.setIfInBounds_toArray, List.set_cons_zero, List.set_cons_succ, i64_w, i32_w]
      rfl
     refine pure_ (i := 6) (N := some 121) (v := ?_) (a' := ?_) #[true, true, true, true, true, true, true, false, false, false, false, false, false, false, false, false, false, false, false, false, false, false, false, false, false, false, false, false, false, false, false, false, false, false, false, false, false, false, false, false, false, false] rfl rfl (any_of HT_.out (by kernel_rfl)) (fun _ _ _ h => h) (Or.inl ⟨by rfl, ?_⟩) ?_ ?_
     rotate_left
     ·intro w'
      go_simp
      with_reducible rfl
     rotate_left
     ·simp only [Act.put, List.setIfInBounds_toArray, List.set_cons_zero, List.set_cons_succ, i64_w, i32_w]
      rfl
     refine pure_ (i := 7) (N := some 122) (v := ?_) (a' := ?_) #[true, true, true, true, true, true, true, true, false, false, false, false, false, false, false, false, false, false, false, false, false, false, false, false, false, false, false, false, false, false, false, false, false, false, false, false, false, false, false, false, false, false] rfl rfl (any_of HT_.out (by kernel_rfl)) (fun _ _ _ h => h) (Or.inl ⟨by rfl, ?_⟩) ?_ ?_
     rotate_left
     ·intro w'
      go_simp
      with_reducible rfl
     rotate_left
     ·simp only [Act.put, List.setIfInBounds_toArray, List.set_cons_zero, List.set_cons_succ, i64_w, i32_w]
      rfl
     refine pure_ (i := 8) (N := some 123) (v := ?_) (a' := ?_) #[true, true, true, true, true, true, true, true, true, false, false, false, false, false, false, false, false, false, false, false, false, false, false, false, false, false, false, false, false, false, false, false, false, false, false, false, false, false, false, false, false, false] rfl rfl (any_of HT_.out (by kernel_rfl)) (fun _ _ _ h => h) (Or.inl ⟨by rfl, ?_⟩) ?_ ?_
     rotate_left
     ·intro w'
      go_simp
      with_reducible rfl
     rotate_left
     ·simp only [Act.put, List.setIfInBounds_toArray, List.set_cons_zero, List.set_cons_succ, i64_w, i32_w]
      rfl
     refine pure_ (i := 9) (N := some 124) (v := ?_) (a' := ?_) #[true, true, true, true, true, true, true, true, true, true, false, false, false, false, false, false, false, false, false, false, false, false, false, false, false, false, false, false, false, false, false, false, false, false, false, false, false, false, false, false, false, false] rfl rfl (any_of HT_.out (by kernel_rfl)) (fun _ _ _ h => h) (Or.inl ⟨by rfl, ?_⟩) ?_ ?_
     rotate_left
     ·intro w'
      go_simp
      with_reducible rfl
     rotate_left
     ·simp only [Act.put, List.setIfInBounds_toArray, List.set_cons_zero, List.set_cons_succ, i64_w, i32_w]
      rfl
     refine pure_ (i := 10) (N := some 125) (v := ?_) (a' := ?_) #[true, true, true, true, true, true, true, true, true, true, true, false, false, false, false, false, false, false, false, false, false, false, false, false, false, false, false, false, false, false, false, false, false, false, false, false, false, false, false, false, false, false] rfl rfl (any_of HT_.out (by kernel_rfl)) (fun _ _ _ h => h) (Or.inl ⟨by rfl, ?_⟩) ?_ ?_
     rotate_left
     ·intro w'
      go_simp
      with_reducible rfl
     rotate_left
     ·simp only [Act.put, List.setIfInBounds_toArray, List.set_cons_zero, List.set_cons_succ, i64_w, i32_w]
      rfl
     refine pure_ (i := 11) (N := some 126) (v := ?_) (a' := ?_) #[true, true, true, true, true, true, true, true, true, true, true, true, false, false, false, false, false, false, false, false, false, false, false, false, false, false, false, false, false, false, false, false, false, false, false, false, false, false, false, false, false, false] rfl rfl (any_of HT_.out (by kernel_rfl)) (fun _ _ _ h => h) (Or.inl ⟨by rfl, ?_⟩) ?_ ?_
     rotate_left
     ·intro w'
      go_simp
      with_reducible rfl
     rotate_left
     ·simp only [Act.put, List.setIfInBounds_toArray, List.set_cons_zero, List.set_cons_succ, i64_w, i32_w]
      rfl
     refine take_ (i := 12) (N := some 127) (v := ?_) (a' := ?_) #[true, true, true, true, true, true, true, true, true, true, true, true, true, false, false, false, false, false, false, false, false, false, false, false, false, false, false, false, false, false, false, false, false, false, false, false, false, false, false, false, false, false] rfl rfl (take_ofW HT_.out HW_.out (by kernel_rfl)) (fun _ _ _ h => h) (Or.inl ⟨by rfl, ?_⟩) hHeld ?_ ?_
     rotate_left
     ·rintro w' ⟨s0, s1, s2⟩
      go_simp
      with_reducible rfl
     rotate_left
     ·simp only [Act.put, List.setIfInBounds_toArray, List.set_cons_zero, List.set_cons_succ, i64_w, i32_w]
      rfl
     refine pure_ (i := 13) (N := some 128) (v := ?_) (a' := ?_) #[true, true, true, true, true, true, true, true, true, true, true, true, true, true, false, false, false, false, false, false, false, false, false, false, false, false, false, false, false, false, false, false, false, false, false, false, false, false, false, false, false, false] rfl rfl (any_of HT_.out (by kernel_rfl)) (fun _ _ _ h => h) (Or.inl ⟨by rfl, ?_⟩) ?_ ?_
     rotate_left
     ·intro w'
      go_simp
      with_reducible rfl
     rotate_left
     ·simp only [Act.put, List.setIfInBounds_toArray, List.set_cons_zero, List.set_cons_succ, i64_w, i32_w]
      rfl
     refine pure_ (i := 14) (N := some 129) (v := ?_) (a' := ?_) #[true, true, true, true, true, true, true, true, true, true, true, true, true, true, true, false, false, false, false, false, false, false, false, false, false, false, false, false, false, false, false, false, false, false, false, false, false, false, false, false, false, false] rfl rfl (any_of HT_.out (by kernel_rfl)) (fun _ _ _ h => h) (Or.inl ⟨by rfl, ?_⟩) ?_ ?_
     rotate_left
     ·intro w'
      go_simp
      with_reducible rfl
     rotate_left
     ·simp only [Act.put, List.setIfInBounds_toArray, List.set_cons_zero, List.set_cons_succ, i64_w, i32_w]
      rfl
     refine pure_ (i := 15) (N := some 130) (v := ?_) (a' := ?_) #[true, true, true, true, true, true, true, true, true, true, true, true, true, true, true, true, false, false, false, false, false, false, false, false, false, false, false, false, false, false, false, false, false, false, false, false, false, false, false, false, false, false] rfl rfl (any_of HT_.out (by kernel_rfl)) (fun _ _ _ h => h) (Or.inl ⟨by rfl, ?_⟩) ?_ ?_
     rotate_left
     ·intro w'
      go_simp
      with_reducible rfl
     rotate_left
     ·simp only [Act.put, List.setIfInBounds_toArray, List.set_cons_zero, List.set_cons_succ, i64_w, i32_w]
      rfl
     refine pure_ (i := 16) (N := some 131) (v := ?_) (a' := ?_) #[true, true, true, true, true, true, true, true, true, true, true, true, true, true, true, true, true, false, false, false, false, false, false, false, false, false, false, false, false, false, false, false, false, false, false, false, false, false, false, false, false, false] rfl rfl (any_of HT_.out (by kernel_rfl)) (fun _ _ _ h => h) (Or.inl ⟨by rfl, ?_⟩) ?_ ?_
     rotate_left
     ·intro w'
      go_simp
      with_reducible rfl
     rotate_left
     ·simp only [Act.put, List.setIfInBounds_toArray, List.set_cons_zero, List.set_cons_succ, i64_w, i32_w]
      rfl
     refine pure_ (i := 17) (N := some 132) (v := ?_) (a' := ?_) #[true, true, true, true, true, true, true, true, true, true, true, true, true, true, true, true, true, true, false, false, false, false, false, false, false, false, false, false, false, false, false, false, false, false, false, false, false, false, false, false, false, false] rfl rfl (any_of HT_.out (by kernel_rfl)) (fun _ _ _ h => h) (Or.inl ⟨by rfl, ?_⟩) ?_ ?_
     rotate_left
     ·intro w'
      go_simp
      with_reducible rfl
     rotate_left
     ·simp only [Act.put, List.setIfInBounds_toArray, List.set_cons_zero, List.set_cons_succ, i64_w, i32_w]
      rfl
     refine pure_ (i := 18) (N := some 133) (v := ?_) (a' := ?_) #[true, true, true, true, true, true, true, true, true, true, true, true, true, true, true, true, true, true, true, false, false, false, false, false, false, false, false, false, false, false, false, false, false, false, false, false, false, false, false, false, false, false] rfl rfl (any_of HT_.out (by kernel_rfl)) (fun _ _ _ h => h) (Or.inl ⟨by rfl, ?_⟩) ?_ ?_
     rotate_left
     ·intro w'
      go_simp
      with_reducible rfl
     rotate_left
     ·simp only [Act.put, List.setIfInBounds_toArray, List.set_cons_zero, List.set_cons_succ, i64_w, i32_w]
      rfl
     refine pure_ (i := 19) (N := some 134) (v := ?_) (a' := ?_) #[true, true, true, true, true, true, true, true, true, true, true, true, true, true, true, true, true, true, true, true, false, false, false, false, false, false, false, false, false, false, false, false, false, false, false, false, false, false, false, false, false, false] rfl rfl (any_of HT_.out (by kernel_rfl)) (fun _ _ _ h => h) (Or.inl ⟨by rfl, ?_⟩) ?_ ?_
     rotate_left
     ·intro w'
      go_simp
      with_reducible rfl
     rotate_left
     ·simp only [Act.put, List.setIfInBounds_toArray, List.set_cons_zero, List.set_cons_succ, i64_w, i32_w]
      rfl
     refine pure_ (i := 20) (N := some 135) (v := ?_) (a' := ?_) #[true, true, true, true, true, true, true, true, true, true, true, true, true, true, true, true, true, true, true, true, true, false, false, false, false, false, false, false, false, false, false, false, false, false, false, false, false, false, false, false, false, false] rfl rfl (any_of HT_.out (by kernel_rfl)) (fun _ _ _ h => h) (Or.inl ⟨by rfl, ?_⟩) ?_ ?_
     rotate_left
     ·intro w'
      go_simp
      with_reducible rfl
     rotate_left
     ·simp only [Act.put, List.setIfInBounds_toArray, List.set_cons_zero, List.set_cons_succ, i64_w, i32_w]
      rfl
     refine pure_ (i := 21) (N := some 136) (v := ?_) (a' := ?_) #[true, true, true, true, true, true, true, true, true, true, true, true, true, true, true, true, true, true, true, true, true, true, false, false, false, false, false, false, false, false, false, false, false, false, false, false, false, false, false, false, false, false] rfl rfl (any_of HT_.out (by kernel_rfl)) (fun _ _ _ h => h) (Or.inl ⟨by rfl, ?_⟩) ?_ ?_
     rotate_left
     ·intro w'
      go_simp
      with_reducible rfl
     rotate_left
     ·simp only [Act.put, List.setIfInBounds_toArray, List.set_cons_zero, List.set_cons_succ, i64_w, i32_w]
      rfl
     refine pure_ (i := 22) (N := some 137) (v := ?_) (a' := ?_) #[true, true, true, true, true, true, true, true, true, true, true, true, true, true, true, true, true, true, true, true, true, true, true, false, false, false, false, false, false, false, false, false, false, false, false, false, false, false, false, false, false, false] rfl rfl (any_of HT_.out (by kernel_rfl)) (fun _ _ _ h => h) (Or.inl ⟨by rfl, ?_⟩) ?_ ?_
     rotate_left
     ·intro w'
      go_simp
      with_reducible rfl
     rotate_left
     ·simp only [Act.put, List.setIfInBounds_toArray, List.set_cons_zero, List.set_cons_succ, i64_w, i32_w]
      rfl
     refine pure_ (i := 23) (N := some 138) (v := ?_) (a' := ?_) #[true, true, true, true, true, true, true, true, true, true, true, true, true, true, true, true, true, true, true, true, true, true, true, true, false, false, false, false, false, false, false, false, false, false, false, false, false, false, false, false, false, false] rfl rfl (any_of HT_.out (by kernel_rfl)) (fun _ _ _ h => h) (Or.inl ⟨by rfl, ?_⟩) ?_ ?_
     rotate_left
     ·intro w'
      go_simp
      with_reducible rfl
     rotate_left
     ·simp only [Act.put, List.setIfInBounds_toArray, List.set_cons_zero, List.set_cons_succ, i64_w, i32_w]
      rfl
     refine pure_ (i := 25) (N := some 140) (v := ?_) (a' := ?_) #[true, true, true, true, true, true, true, true, true, true, true, true, true, true, true, true, true, true, true, true, true, true, true, true, false, true, false, false, false, false, false, false, false, false, false, false, false, false, false, false, false, false] rfl rfl (any_of HT_.out (by kernel_rfl)) (fun _ _ _ h => h) (Or.inl ⟨by rfl, ?_⟩) ?_ ?_
     rotate_left
     ·intro w'
      go_simp
      with_reducible rfl
     rotate_left
     ·simp only [Act.put, List.setIfInBounds_toArray, List.set_cons_zero, List.set_cons_succ, i64_w, i32_w]
      rfl
     refine take_ (i := 24) (N := some 139) (v := ?_) (a' := ?_) #[true, true, true, true, true, true, true, true, true, true, true, true, true, true, true, true, true, true, true, true, true, true, true, true, true, true, false, false, false, false, false, false, false, false, false, false, false, false, false, false, false, false] rfl rfl (take_ofW HT_.out HW_.out (by kernel_rfl)) (fun _ _ _ h => h) (Or.inl ⟨by rfl, ?_⟩) hHeld ?_ ?_
     rotate_left
     ·rintro w' ⟨s0, s1, s2⟩
      go_simp
      with_reducible rfl
     rotate_left
     ·simp only [Act.put, List.setIfInBounds_toArray, List.set_cons_zero, List.set_cons_succ, i64_w, i32_w]
      rfl
     refine one_ (i := 26) (N := some 141) #[true, true, true, true, true, true, true, true, true, true, true, true, true, true, true, true, true, true, true, true, true, true, true, true, true, true, true, false, false, false, false, false, false, false, false, false, false, false, false, false, false, false] rfl rfl (one_of HT_.out (by kernel_rfl)) (by decide) (fun K hK => ?_)
     refine goes_ Try.func24 (by kernel_rfl) rfl #[.pointer (some ⟨gw, 0, none⟩)] (by rfl) rfl rfl (by simp only [List.map_toArray, List.map_cons, List.map_nil]; rfl) ?_
     with_reducible refine (rbytes_yes k P2 w.heap.size gw U R cs _ HW7.out (by omega) (by omega) HGL.out HRB.out).mono ?_
     rintro e w8 ⟨v8, rfl, ho_, hb⟩
     obtain ⟨Ae, ce, rfl⟩ := Kd.R_slice ho_
     have hce := cv_43 (c := ce) (Kd.R_reads' ho_).2.2
     have HI8 := Aside0.mk (HI7.out.below hb)
     have HT8 := Aside0.mk (HT7.out.below hb)
     have HQ8 := Aside0.mk (HQ7.out.trans (hb.mono HQ7.out.size))
     clear ho_ hb
     refine ⟨_, rfl, ?_⟩
     refine hK.out _ _ ⟨(blk_cell (blk_below BW.out HQ8.out) 0).trans rfl, (blk_cell (blk_below BW.out HQ8.out) 1).trans rfl, (cv_43 (Kd.C_below HCB.out HQ8.out))⟩ (fun hHeld => ?_)
     clear hK K
     refine norm_ (a' := ?_) ?_ ?_
     rotate_left
     ·show Act.put _ (some 141) _ = _
      simp only [Act.put, List.setIfInBounds_toArray, List.set_cons_zero, List.set_cons_succ, i64_w, i32_w]
      rfl
     refine one_ (i := 27) (N := some 142) #[true, true, true, true, true, true, true, true, true, true, true, true, true, true, true, true, true, true, true, true, true, true, true, true, true, true, true, true, false, false, false, false, false, false, false, false, false, false, false, false, false, false] rfl rfl (one_of HT_.out (by kernel_rfl)) (by decide) (fun K hK => ?_)
     refine value_ (w1 := ?_) (v := ?_) (by rfl) rfl ?_ ?_
     rotate_left 2
     ·go_simp
      constructor
      ·rfl
      ·rfl
     clear hce
     refine hK.out _ _ ⟨(blk_cell (blk_below BW.out HQ8.out) 0).trans rfl, (blk_cell (blk_below BW.out HQ8.out) 1).trans rfl, (cv_43 (Kd.C_below HCB.out HQ8.out))⟩ (fun hHeld => ?_)
     clear hK K
     refine norm_ (a' := ?_) ?_ ?_
     rotate_left
     ·show Act.put _ (some 142) _ = _
      simp only [Act.put, List.setIfInBounds_toArray, List.set_cons_zero, List.set_cons_succ, i64_w, i32_w]
      rfl
     refine pure_ (i := 28) (N := some 143) (v := ?_) (a' := ?_) #[true, true, true, true, true, true, true, true, true, true, true, true, true, true, true, true, true, true, true, true, true, true, true, true, true, true, true, true, true, false, false, false, false, false, false, false, false, false, false, false, false, false] rfl rfl (any_of HT_.out (by kernel_rfl)) (fun _ _ _ h => h) (Or.inl ⟨by rfl, ?_⟩) ?_ ?_
     rotate_left
     ·intro w'
      go_simp
      with_reducible rfl
     rotate_left
     ·simp only [Act.put, List.setIfInBounds_toArray, List.set_cons_zero, List.set_cons_succ, i64_w, i32_w]
      rfl
     refine pure_ (i := 29) (N := some 144) (v := ?_) (a' := ?_) #[true, true, true, true, true, true, true, true, true, true, true, true, true, true, true, true, true, true, true, true, true, true, true, true, true, true, true, true, true, true, false, false, false, false, false, false, false, false, false, false, false, false] rfl rfl (any_of HT_.out (by kernel_rfl)) (fun _ _ _ h => h) (Or.inl ⟨by rfl, ?_⟩) ?_ ?_
     rotate_left
     ·intro w'
      go_simp
      with_reducible rfl
     rotate_left
     ·simp only [Act.put, List.setIfInBounds_toArray, List.set_cons_zero, List.set_cons_succ, i64_w, i32_w]
      rfl
     refine pure_ (i := 30) (N := some 145) (v := ?_) (a' := ?_) #[true, true, true, true, true, true, true, true, true, true, true, true, true, true, true, true, true, true, true, true, true, true, true, true, true, true, true, true, true, true, true, false, false, false, false, false, false, false, false, false, false, false] rfl rfl (any_of HT_.out (by kernel_rfl)) (fun _ _ _ h => h) (Or.inl ⟨by rfl, ?_⟩) ?_ ?_
     rotate_left
     ·intro w'
      go_simp
      with_reducible rfl
     rotate_left
     ·simp only [Act.put, List.setIfInBounds_toArray, List.set_cons_zero, List.set_cons_succ, i64_w, i32_w]
      rfl
     refine pure_ (i := 31) (N := some 146) (v := ?_) (a' := ?_) #[true, true, true, true, true, true, true, true, true, true, true, true, true, true, true, true, true, true, true, true, true, true, true, true, true, true, true, true, true, true, true, true, false, false, false, false, false, false, false, false, false, false] rfl rfl (any_of HT_.out (by kernel_rfl)) (fun _ _ _ h => h) (Or.inl ⟨by rfl, ?_⟩) ?_ ?_
     rotate_left
     ·intro w'
      go_simp
      with_reducible rfl
     rotate_left
     ·simp only [Act.put, List.setIfInBounds_toArray, List.set_cons_zero, List.set_cons_succ, i64_w, i32_w]
      rfl
     refine pure_ (i := 32) (N := some 147) (v := ?_) (a' := ?_) #[true, true, true, true, true, true, true, true, true, true, true, true, true, true, true, true, true, true, true, true, true, true, true, true, true, true, true, true, true, true, true, true, true, false, false, false, false, false, false, false, false, false] rfl rfl (any_of HT_.out (by kernel_rfl)) (fun _ _ _ h => h) (Or.inl ⟨by rfl, ?_⟩) ?_ ?_
     rotate_left
     ·intro w'
      go_simp
      with_reducible rfl
     rotate_left
     ·simp only [Act.put, List.setIfInBounds_toArray, List.set_cons_zero, List.set_cons_succ, i64_w, i32_w]
      rfl
     refine pure_ (i := 33) (N := some 148) (v := ?_) (a' := ?_) #[true, true, true, true, true, true, true, true, true, true, true, true, true, true, true, true, true, true, true, true, true, true, true, true, true, true, true, true, true, true, true, true, true, true, false, false, false, false, false, false, false, false] rfl rfl (any_of HT_.out (by kernel_rfl)) (fun _ _ _ h => h) (Or.inl ⟨by rfl, ?_⟩) ?_ ?_
     rotate_left
     ·intro w'
      go_simp
      with_reducible rfl
     rotate_left
     ·simp only [Act.put, List.setIfInBounds_toArray, List.set_cons_zero, List.set_cons_succ, i64_w, i32_w]
      rfl
     refine pure_ (i := 34) (N := some 149) (v := ?_) (a' := ?_) #[true, true, true, true, true, true, true, true, true, true, true, true, true, true, true, true, true, true, true, true, true, true, true, true, true, true, true, true, true, true, true, true, true, true, true, false, false, false, false, false, false, false] rfl rfl (any_of HT_.out (by kernel_rfl)) (fun _ _ _ h => h) (Or.inl ⟨by rfl, ?_⟩) ?_ ?_
     rotate_left
     ·intro w'
      go_simp
      with_reducible rfl
     rotate_left
     ·simp only [Act.put, List.setIfInBounds_toArray, List.set_cons_zero, List.set_cons_succ, i64_w, i32_w]
      rfl
     refine pure_ (i := 35) (N := some 150) (v := ?_) (a' := ?_) #[true, true, true, true, true, true, true, true, true, true, true, true, true, true, true, true, true, true, true, true, true, true, true, true, true, true, true, true, true, true, true, true, true, true, true, true, false, false, false, false, false, false] rfl rfl (any_of HT_.out (by kernel_rfl)) (fun _ _ _ h => h) (Or.inl ⟨by rfl, ?_⟩) ?_ ?_
     rotate_left
     ·intro w'
      go_simp
      with_reducible rfl
     rotate_left
     ·simp only [Act.put, List.setIfInBounds_toArray, List.set_cons_zero, List.set_cons_succ, i64_w, i32_w]
      rfl
     refine pure_ (i := 38) (N := some 153) (v := ?_) (a' := ?_) #[true, true, true, true, true, true, true, true, true, true, true, true, true, true, true, true, true, true, true, true, true, true, true, true, true, true, true, true, true, true, true, true, true, true, true, true, false, false, true, false, false, false] rfl rfl (any_of HT_.out (by kernel_rfl)) (fun _ _ _ h => h) (Or.inl ⟨by rfl, ?_⟩) ?_ ?_
     rotate_left
     ·intro w'
      go_simp
      with_reducible rfl
     rotate_left
     ·simp only [Act.put, List.setIfInBounds_toArray, List.set_cons_zero, List.set_cons_succ, i64_w, i32_w]
      rfl
     refine take_ (i := 39) (N := some 154) (v := ?_) (a' := ?_) #[true, true, true, true, true, true, true, true, true, true, true, true, true, true, true, true, true, true, true, true, true, true, true, true, true, true, true, true, true, true, true, true, true, true, true, true, false, false, true, true, false, false] rfl rfl (take_ofW HT_.out HW_.out (by kernel_rfl)) (fun _ _ _ h => h) (Or.inl ⟨by rfl, ?_⟩) hHeld ?_ ?_
     rotate_left
     ·rintro w' ⟨s0, s1, s2⟩
      go_simp
      with_reducible rfl
     rotate_left
     ·simp only [Act.put, List.setIfInBounds_toArray, List.set_cons_zero, List.set_cons_succ, i64_w, i32_w]
      rfl
     refine one_ (i := 36) (N := some 151) #[true, true, true, true, true, true, true, true, true, true, true, true, true, true, true, true, true, true, true, true, true, true, true, true, true, true, true, true, true, true, true, true, true, true, true, true, true, false, true, true, false, false] rfl rfl (one_of HT_.out (by kernel_rfl)) (by decide) (fun K hK => ?_)
     refine goes_ Try.func21 (by kernel_rfl) rfl #[.pointer (some ⟨gt, 0, none⟩)] (by rfl) rfl rfl (by simp only [List.map_toArray, List.map_cons, List.map_nil]; rfl) ?_
     with_reducible refine (enc_yes k _ _ gt U R cs _ HT8.out (by omega) (by omega) HGL.out HEN.out).mono ?_
     rintro e w9 ⟨v9, rfl, ho_, hb⟩
     obtain ⟨Af, cf, rfl⟩ := Kd.R_slice ho_
     have hcf := cv_43 (c := cf) (Kd.R_reads' ho_).2.2
     have HI9 := Aside0.mk (HI8.out.below hb)
     have HT9 := Aside0.mk (HT8.out.below hb)
     have HQ9 := Aside0.mk (HQ8.out.trans (hb.mono HQ8.out.size))
     clear ho_ hb
     refine ⟨_, rfl, ?_⟩
     refine hK.out _ _ ⟨(blk_cell (blk_below BW.out HQ9.out) 0).trans rfl, (blk_cell (blk_below BW.out HQ9.out) 1).trans rfl, (cv_43 (Kd.C_below HCB.out HQ9.out))⟩ (fun hHeld => ?_)
     clear hK K
     refine norm_ (a' := ?_) ?_ ?_
     rotate_left
     ·show Act.put _ (some 151) _ = _
      simp only [Act.put, List.setIfInBounds_toArray, List.set_cons_zero, List.set_cons_succ, i64_w, i32_w]
      rfl
     refine one_ (i := 37) (N := some 152) #[true, true, true, true, true, true, true, true, true, true, true, true, true, true, true, true, true, true, true, true, true, true, true, true, true, true, true, true, true, true, true, true, true, true, true, true, true, true, true, true, false, false] rfl rfl (one_of HT_.out (by kernel_rfl)) (by decide) (fun K hK => ?_)
     refine value_ (w1 := ?_) (v := ?_) (by rfl) rfl ?_ ?_
     rotate_left 2
     ·go_simp
      constructor
      ·rfl
      ·rfl
     clear hcf
     refine hK.out _ _ ⟨(blk_cell (blk_below BW.out HQ9.out) 0).trans rfl, (blk_cell (blk_below BW.out HQ9.out) 1).trans rfl, (cv_43 (Kd.C_below HCB.out HQ9.out))⟩ (fun hHeld => ?_)
     clear hK K
     refine norm_ (a' := ?_) ?_ ?_
     rotate_left
     ·show Act.put _ (some 152) _ = _
      simp only [Act.put, List.setIfInBounds_toArray, List.set_cons_zero, List.set_cons_succ, i64_w, i32_w]
      rfl
     refine pure_ (i := 40) (N := some 155) (v := ?_) (a' := ?_) #[true, true, true, true, true, true, true, true, true, true, true, true, true, true, true, true, true, true, true, true, true, true, true, true, true, true, true, true, true, true, true, true, true, true, true, true, true, true, true, true, true, false] rfl rfl (any_of HT_.out (by kernel_rfl)) (fun _ _ _ h => h) (Or.inl ⟨by rfl, ?_⟩) ?_ ?_
     rotate_left
     ·intro w'
      go_simp
      with_reducible rfl
     rotate_left
     ·simp only [Act.put, List.setIfInBounds_toArray, List.set_cons_zero, List.set_cons_succ, i64_w, i32_w]
      rfl
     refine pure_ (i := 41) (N := some 156) (v := ?_) (a' := ?_) #[true, true, true, true, true, true, true, true, true, true, true, true, true, true, true, true, true, true, true, true, true, true, true, true, true, true, true, true, true, true, true, true, true, true, true, true, true, true, true, true, true, true] rfl rfl (any_of HT_.out (by kernel_rfl)) (fun _ _ _ h => h) (Or.inl ⟨by rfl, ?_⟩) ?_ ?_
     rotate_left
     ·intro w'
      go_simp
      with_reducible rfl
     rotate_left
     ·simp only [Act.put, List.setIfInBounds_toArray, List.set_cons_zero, List.set_cons_succ, i64_w, i32_w]
      rfl
     refine done_ (done_of HT_.out (by kernel_rfl)) ?_
     have HP9 := Aside0.mk (HB5.out.trans (HQ9.out.mono HB5.out.size))
     have hi := HI0.out
     clear hHeld
     have HIT := Aside0.mk (show Inv G w.heap.size w9 gt gw (fun j => w5.heap.size ≤ j) (fun j => P2 j ∧ j < w5.heap.size) U R from
      ⟨HT9.out.lower HB5.out.size, (HI5.out.2.1.bound).below HQ9.out, fun j h1 h2 => by omega, HI9.out.2.2.2⟩)
     go_wp2_with fail
     ·go_roundw
      case rel => exact ⟨i + 1, gt, _, _, U, R, rfl, rfl, by omega, by omega, HIT, HP9⟩
      case measure => simp [intOf]; omega
     ·go_roundw
      case rel => exact ⟨i + 1, gs, P1, P2, U, R, rfl, rfl, by omega, by omega, HI9, HP9⟩
      case measure => simp [intOf]; omega
   ·have b2 : decide (i < 50) = false := decide_eq_false h50
    clear hlt h50 i0 il
    go_wp2_with fail
    go_ret
    exact ⟨rfl, HBW.out⟩
  ·have b1 : decide (i < (ops.length : Int)) = false := decide_eq_false hlt
   clear hlt i0 il
   go_wp2_with fail
   go_ret
   exact ⟨rfl, HBW.out⟩
noncomputable def recensionlaw25_StackAll.f (k : Nat) (l0 : List (S32)) : Option Bool := @ite _ (AllOK k l0) (Classical.propDecidable _) (some true) none
theorem recensionlaw25_StackAll.calls (k : Nat) (A0 : Option Addr) (c0 : Nat) (l0 : List (S32)) (r : Bool) (w : World) (hr0 : Kd.C k32 w A0 l0.length l0) (hc0 : l0.length ≤ c0) (hrt : Aside0 (r = true)) (h : recensionlaw25_StackAll.f k l0 = some r) :
  Calls Try.prog 3 #[.slice A0 l0.length c0] w fun e w' => e = .returned (.bool r) ∧ Below w.heap.size w w' := by
 obtain rfl := hrt.out
 by_cases hc : AllOK k l0
 ·exact all_walk k A0 c0 l0 w hr0 hc0 hc
 ·unfold recensionlaw25_StackAll.f at h
  rw [if_neg hc] at h
  cases h

end Go.Proofs.Ythjbcpakpfdkaaa.PStack
