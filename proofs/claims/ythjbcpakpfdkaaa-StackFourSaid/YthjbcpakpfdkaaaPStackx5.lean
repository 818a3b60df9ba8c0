-- Written by myprint.py (the prover's own turn of the printer); not trusted: Lean checks it.
import Derived.Test.YthjbcpakpfdkaaaPStackx0
import Derived.Test.YthjbcpakpfdkaaaPStackx2
import Derived.Test.YthjbcpakpfdkaaaPStackx4
namespace Go.Proofs.Ythjbcpakpfdkaaa.PStack
open Go.RowKit Go.Proofs.YthjbcpakpfdkaaaW.PrintWords Go.Proofs.YthjbcpakpfdkaaaW.PrintLast Go.Proofs.YthjbcpakpfdkaaaW.PrintMore
attribute [local go_sem] str_leq op_leq op_gtr op_geq max2_int min2_int max_two min_two max_three min_three max_four min_four   -- for this text's walks alone
set_option linter.unusedVariables false
set_option linter.unusedSimpArgs false

/-! ### recensionlaw25_StackFour: function 5 -/
theorem str_one (W : World) (v : Int) : (convert 43 9 (.slice (some ⟨W.heap.size, 0, none⟩) 1 1)).run Try.prog (W.alloc (.cells #[.int .u8 v] 5)) = .ok (.string (strOfNums [v])) (W.alloc (.cells #[.int .u8 v] 5)) := by
 have h : Kd.R (Kd.int .u8) 5 (W.alloc (.cells #[.int .u8 v] 5)) 0 (fun _ => True) (.slice (some ⟨W.heap.size, 0, none⟩) 1 1) [v] := R_one (d := Kd.int .u8) (p := v) (cs := [.int .u8 v]) (okx := fun _ => False) (Nat.zero_le _) rfl (fun _ h => h.elim) trivial _ rfl
 exact Kd.C_string (P := Try.prog) (c := 1) Try.underlying43 Try.underlying5 Try.underlying9 (Kd.R_reads' h).2.2
theorem str_two (W : World) (o : Obj) (v : Int) : (convert 43 9 (.slice (some ⟨W.heap.size + 1, 0, none⟩) 1 1)).run Try.prog ((W.alloc o).alloc (.cells #[.int .u8 v] 5)) = .ok (.string (strOfNums [v])) ((W.alloc o).alloc (.cells #[.int .u8 v] 5)) := by
 have h := str_one (W.alloc o) v
 rwa [World.size_alloc] at h
def stp (x : Int) : List S56 := [chg ⟨#[97]⟩ (strOfNums [97 + x]) (strOfNums [98 + x])]
def seg (lo : Int) : Nat → List (List S56)
 | 0 => []
 | m + 1 => stp lo :: seg (lo + 1) m
theorem seg_len (m : Nat) : ∀ lo, (seg lo m).length = m := by
 induction m with
 | zero => intro lo; rfl
 | succ m ih => intro lo; simp [seg, ih]
theorem seg_snoc (m : Nat) : ∀ lo : Int, seg lo (m + 1) = seg lo m ++ [stp (lo + m)] := by
 induction m with
 | zero => intro lo; simp [seg]
 | succ m ih =>
  intro lo
  rw [seg, ih (lo + 1), seg, List.cons_append]
  congr 3
  rw [show lo + 1 + (m : Int) = lo + ((m + 1 : Nat) : Int) by omega]
theorem push_seg (i : Nat) (U : List (List S56)) (h : U = seg ((i : Int) - (min i 4 : Nat)) (min i 4)) : (U ++ [stp i]).drop (U.length + 1 - 4) = seg (((i + 1 : Nat) : Int) - (min (i + 1) 4 : Nat)) (min (i + 1) 4) := by
 have hs := seg_snoc (min i 4) ((i : Int) - (min i 4 : Nat))
 rw [show (i : Int) - (min i 4 : Nat) + (min i 4 : Nat) = i by omega] at hs
 rw [h, ← hs, seg_len]
 by_cases h4 : i < 4
 ·rw [show min i 4 = i by omega, show min (i + 1) 4 = i + 1 by omega, show i + 1 - 4 = 0 by omega, List.drop_zero]
  congr 1
  omega
 ·rw [show min i 4 = 4 by omega, show min (i + 1) 4 = 4 by omega]
  show (seg ((i : Int) - 4) 5).drop 1 = _
  rw [seg, List.drop_succ_cons, List.drop_zero]
  congr 1
  omega
set_option maxHeartbeats 1000000 in
set_option maxRecDepth 100000 in
theorem four_out (k : Nat) (n : Int) (w : World) (hb : BegunOK k) (h : n < 0 ∨ 20 < n) :
  Calls Try.prog 5 #[.int .i64 n] w fun e w' => e = .returned (.bool true) ∧ Below w.heap.size w w' := by
 have H := Aside0.mk hb
 have HQ := Aside0.mk h
 clear hb h
 by_cases h1 : n < 0
 ·go_enter Try.func5, Try.ntmps5
  go_wp2_with (go_at_call 9; refine (begun_ok H.out _).mono ?_; rintro e w1 ⟨rfl, hb1⟩; have B1 := Aside0.mk hb1; clear hb1)
  go_ret
  exact ⟨rfl, B1.out⟩
 ·have h2 : 20 < n := by have := HQ.out; omega
  go_enter Try.func5, Try.ntmps5
  go_wp2_with (go_at_call 9; refine (begun_ok H.out _).mono ?_; rintro e w1 ⟨rfl, hb1⟩; have B1 := Aside0.mk hb1; clear hb1)
  go_ret
  exact ⟨rfl, B1.out⟩
set_option maxHeartbeats 2000000 in
set_option maxRecDepth 100000 in
theorem four_in (k : Nat) (n : Nat) (w : World) (hb : BegunOK k) (n20 : n ≤ 20) (hm : ∀ i : Nat, i < 20 → stack_May.f k (stp i) = some true) :
  Calls Try.prog 5 #[.int .i64 (n : Int)] w fun e w' => e = .returned (.bool true) ∧ Below w.heap.size w w' := by
 have H := Aside0.mk hb
 have HM := Aside0.mk hm
 clear hb hm
 go_enter Try.func5, Try.ntmps5
 go_wp2_with fail
 refine (begun_ok H.out _).mono ?_
 rintro e w1 ⟨rfl, hb1⟩
 have B1 := Aside0.mk hb1
 clear hb1
 go_wp2_with fail
 refine (st_new w.heap.size _ B1.out.size).mono ?_
 rintro e w3 ⟨rfl, hs3, hb3⟩
 have S3 := Aside0.mk hs3
 have B3 := Aside0.mk (B1.out.trans (hb3.mono B1.out.size))
 obtain ⟨g, hg⟩ : ∃ g, w1.heap.size = g := ⟨_, rfl⟩
 rw [hg] at S3 ⊢
 clear hs3 hb3 hg B1
 go_wp2_with fail
 go_loopw [5] (fun i wr => ∃ (x : Nat) (U : List (List S56)) (P : Nat → Prop), i = .int .i64 (x : Int) ∧ x ≤ n ∧ Aside0 (U = seg ((x : Int) - (min x 4 : Nat)) (min x 4)) ∧ Aside0 (St 63 35 P w.heap.size wr g U []) ∧ Aside0 (Below w.heap.size w wr)) (fun i _ => (n - (intOf i).toNat))
 case atStart => exact ⟨0, [], _, rfl, Nat.zero_le _, ⟨rfl⟩, S3, B3⟩
 case round =>
  clear S3 B3
  obtain ⟨x, U, P, rfl, hxn, HU, HS, HB⟩ := hrel
  have hul : U.length ≤ 4 := by have := HU.out; rw [this, seg_len]; omega
  by_cases hlt : x < n
  ·have hcv := fun (W : World) (v : Int) => str_one W v
   have HCV2 := Aside0.mk (str_two wr (.cells #[.int .u8 (97 + (x : Int))] 5) (98 + (x : Int)))
   have e1 : IntKind.i64.wrap (97 + (x : Int)) = 97 + (x : Int) := IntWalk.i64_in _ (by omega)
   have e1b : IntKind.i64.wrap (98 + (x : Int)) = 98 + (x : Int) := IntWalk.i64_in _ (by omega)
   have e2 : IntKind.i64.wrap ((x : Int) + 1) = (x : Int) + 1 := IntWalk.i64_in _ (by omega)
   go_wp2_with fail
   rw [HCV2.out]
   simp only [Result.andThen]
   rw [Oper.upon_value]
   go_wp2_with fail
   refine (stepc _ _ _ _).mono ?_
   rintro e w4 ⟨A4, c4, rfl, ho, hb⟩
   have S4 := Aside0.mk (((HS.out.alloc _).alloc _).below hb)
   have hB2 := (HB.out.alloc HB.out.size (.cells #[.int .u8 (97 + (x : Int))] 5)).alloc (HB.out.alloc HB.out.size _).size (.cells #[.int .u8 (98 + (x : Int))] 5)
   have B4 := Aside0.mk (hB2.trans (hb.mono hB2.size))
   have X4 := Aside0.mk (show Kd.R k56 56 w4 _ (fun _ => True) (.slice A4 1 c4) (stp x) from ho)
   clear ho hb HS HB hB2
   go_wp2_with fail
   refine (push_yes k _ w.heap.size g U [] A4 c4 (stp x) w4 S4.out B4.out.size (Kd.R_reads' X4.out).2.2 (Kd.R_reads' X4.out).2.1 (HM.out x (by omega)) (by simp [stp]) (by omega)).mono ?_
   rintro e w5 ⟨rfl, hs, hb, _⟩
   rw [push_seg x U HU.out] at hs
   have S5 := Aside0.mk hs
   have B5 := Aside0.mk (B4.out.trans hb)
   clear hs hb S4 B4 X4
   go_wp2_with fail
   go_roundw
   case rel => exact ⟨x + 1, _, _, by go_num, by omega, ⟨rfl⟩, S5, B5⟩
   case measure => simp [intOf]; omega
  ·obtain rfl : x = n := by omega
   obtain ⟨lo, hlo⟩ : ∃ lo : Int, (x : Int) - (min x 4 : Nat) = lo := ⟨_, rfl⟩
   obtain ⟨q, hq⟩ : ∃ q, min x 4 = q := ⟨_, rfl⟩
   have q4 : q ≤ 4 := by omega
   have qx : q ≤ x := by omega
   have l0 : 0 ≤ lo := by rw [← hlo, hq]; omega
   have HU2 := Aside0.mk (show U = seg lo q from by rw [HU.out, hlo, hq])
   have HLO := Aside0.mk (show lo = (x : Int) - q from by rw [← hlo, hq])
   rw [HU2.out] at HS
   have HQ := Aside0.mk hq
   clear hlo hq hul HU
   by_cases hmin : 4 < x
   ·have hmi : ((4 : Int) < (x : Int)) = True := eq_true (by omega)
    have hmj : ((x : Int) < 4) = False := eq_false (by omega)
    obtain rfl : q = 4 := by rw [← HQ.out]; exact Nat.min_eq_right (by omega)
    have hlx : (lo : Int) + (4 : Nat) = (x : Int) := by have := HLO.out; omega
    clear HU2
    go_wp2_with fail
    go_loopw [7] (fun i wr => ∃ (y : Nat) (P : Nat → Prop), i = .int .i64 (y : Int) ∧ y ≤ 4 ∧ Aside0 (St 63 35 P w.heap.size wr g (seg lo (4 - y)) (seg (lo + ((4 - y : Nat) : Int)) y)) ∧ Aside0 (Below w.heap.size w wr)) (fun i _ => (4 - (intOf i).toNat))
    case atStart => exact ⟨0, P, rfl, Nat.zero_le _, ⟨HS.out⟩, HB⟩
    case round =>
     clear HS HB
     obtain ⟨y, P, rfl, hyq, HS, HB⟩ := hrel
     by_cases hlt : y < 4
     ·obtain ⟨m, hm⟩ : ∃ m, 4 - y = m + 1 := ⟨4 - y - 1, by omega⟩
      have hs := HS.out
      rw [hm, seg_snoc] at hs
      have HM1 := Aside0.mk hm
      have S1 := Aside0.mk hs
      have e2 : IntKind.i64.wrap ((y : Int) + 1) = (y : Int) + 1 := IntWalk.i64_in _ (by omega)
      have m4 : m ≤ 4 := by omega
      have y4 : y ≤ 4 := by omega
      obtain ⟨v, hv⟩ : ∃ v : Int, lo + (m : Int) = v := ⟨_, rfl⟩
      have hve : (x : Int) - 1 - y = v := by rw [← hv]; omega
      have hv0 : 0 ≤ v := by rw [← hv]; omega
      have hv1 : v ≤ 20 := by rw [← hv]; omega
      rw [hv] at S1
      have HV := Aside0.mk hv
      have HVE := Aside0.mk hve
      clear hm hs HS hv hve
      go_wp2_with fail
      refine (undo_yes _ w.heap.size g (seg lo m) _ (stp v) _ S1.out HB.out.size (by rw [seg_len]; omega) (by rw [seg_len]; omega) (by simp [stp])).mono ?_
      rintro e w6 ⟨v6, rfl, ho, hs, hb, _⟩
      obtain ⟨A6, c6, rfl⟩ := Kd.R_slice ho
      have Y6 := Aside0.mk (show Kd.R k56 56 w6 _ (fun _ => True) (.slice A6 1 c6) [chg ⟨#[97]⟩ (strOfNums [97 + v]) (strOfNums [98 + v])] from ho)
      rw [show (stp v).length = 1 from rfl]
      have S6 := Aside0.mk hs
      have B6 := Aside0.mk (HB.out.trans hb)
      clear ho hs hb S1 HB
      obtain ⟨az, rfl, _, _, _, pz3, _⟩ := C_one56 (Kd.R_reads' Y6.out).2.2 rfl
      have PZ := Aside0.mk pz3
      clear pz3
      go_wp2_with fail
      have e1 : IntKind.i64.wrap (97 + (x : Int)) = 97 + (x : Int) := IntWalk.i64_in _ (by omega)
      have e3 : IntKind.i64.wrap (97 + (x : Int) - 1) = 97 + (x : Int) - 1 := IntWalk.i64_in _ (by omega)
      have e4 : IntKind.i64.wrap (97 + (x : Int) - 1 - (y : Int)) = 97 + v := by rw [show 97 + (x : Int) - 1 - (y : Int) = 97 + v by have := HVE.out; omega]; exact IntWalk.i64_in _ (by omega)
      have e5 : IntKind.u8.wrap (97 + v) = 97 + v := by simp [IntKind.wrap, IntKind.bits, IntKind.signed]; omega
      have e6 : (97 + v) % 256 = 97 + v := by omega
      have PD := Aside0.mk (((below_drew1 (Below.refl w6.heap.size w6)).cell (World.block_lt_of_cell? _ _ PZ.out)).trans PZ.out)
      have SD := Aside0.mk S6.out.drew
      have BD := Aside0.mk (below_drew1 B6.out)
      clear PZ S6 B6 Y6
      refine start_ (n := 22) (S := fun w' => w'.cell? ⟨az.block, az.off + 3, none⟩ = some (.string (strOfNums [97 + v]))) (ds := []) #[false, false, false, false, false, false, false, false, false, false, false, false, false, false, false, false, false, false, false, false, false, false] (by kernel_rfl) rfl rfl (PD.out) (fun hHeld => ?_)
      generalize w6.drew = w7 at PD SD BD hHeld ⊢
      refine pure_ (i := 0) (N := some 60) (v := ?_) (a' := ?_) #[true, false, false, false, false, false, false, false, false, false, false, false, false, false, false, false, false, false, false, false, false, false] rfl rfl (by kernel_rfl) (fun _ _ _ h => h) (Or.inl ⟨by rfl, ?_⟩) ?_ ?_
      rotate_left
      ·intro w'
       go_simp
       with_reducible rfl
      rotate_left
      ·simp only [Act.put, List.setIfInBounds_toArray, List.set_cons_zero, List.set_cons_succ, i64_w, i32_w]
       rfl
      refine pure_ (i := 1) (N := some 61) (v := ?_) (a' := ?_) #[true, true, false, false, false, false, false, false, false, false, false, false, false, false, false, false, false, false, false, false, false, false] rfl rfl (by kernel_rfl) (fun _ _ _ h => h) (Or.inl ⟨by rfl, ?_⟩) ?_ ?_
      rotate_left
      ·intro w'
       go_simp
       with_reducible rfl
      rotate_left
      ·simp only [Act.put, List.setIfInBounds_toArray, List.set_cons_zero, List.set_cons_succ, i64_w, i32_w]
       rfl
      refine pure_ (i := 2) (N := some 62) (v := ?_) (a' := ?_) #[true, true, true, false, false, false, false, false, false, false, false, false, false, false, false, false, false, false, false, false, false, false] rfl rfl (by kernel_rfl) (fun _ _ _ h => h) (Or.inl ⟨by rfl, ?_⟩) ?_ ?_
      rotate_left
      ·intro w'
       go_simp
       with_reducible rfl
      rotate_left
      ·simp only [Act.put, List.setIfInBounds_toArray, List.set_cons_zero, List.set_cons_succ, i64_w, i32_w]
       rfl
      refine pure_ (i := 3) (N := some 63) (v := ?_) (a' := ?_) #[true, true, true, true, false, false, false, false, false, false, false, false, false, false, false, false, false, false, false, false, false, false] rfl rfl (by kernel_rfl) (fun _ _ _ h => h) (Or.inl ⟨by rfl, ?_⟩) ?_ ?_
      rotate_left
      ·intro w'
       go_simp
       with_reducible rfl
      rotate_left
      ·simp only [Act.put, List.setIfInBounds_toArray, List.set_cons_zero, List.set_cons_succ, i64_w, i32_w]
       rfl
      refine pure_ (i := 4) (N := some 64) (v := ?_) (a' := ?_) #[true, true, true, true, true, false, false, false, false, false, false, false, false, false, false, false, false, false, false, false, false, false] rfl rfl (by kernel_rfl) (fun _ _ _ h => h) (Or.inl ⟨by rfl, ?_⟩) ?_ ?_
      rotate_left
      ·intro w'
       go_simp
       with_reducible rfl
      rotate_left
      ·simp only [Act.put, List.setIfInBounds_toArray, List.set_cons_zero, List.set_cons_succ, i64_w, i32_w]
       rfl
      refine pure_ (i := 5) (N := some 65) (v := ?_) (a' := ?_) #[true, true, true, true, true, true, false, false, false, false, false, false, false, false, false, false, false, false, false, false, false, false] rfl rfl (by kernel_rfl) (fun _ _ _ h => h) (Or.inl ⟨by rfl, ?_⟩) ?_ ?_
      rotate_left
      ·intro w'
       go_simp
       with_reducible rfl
      rotate_left
      ·simp only [Act.put, List.setIfInBounds_toArray, List.set_cons_zero, List.set_cons_succ, i64_w, i32_w]
       rfl
      refine pure_ (i := 6) (N := some 66) (v := ?_) (a' := ?_) #[true, true, true, true, true, true, true, false, false, false, false, false, false, false, false, false, false, false, false, false, false, false] rfl rfl (by kernel_rfl) (fun _ _ _ h => h) (Or.inl ⟨by rfl, ?_⟩) ?_ ?_
      rotate_left
      ·intro w'
       go_simp
       with_reducible rfl
      rotate_left
      ·simp only [Act.put, List.setIfInBounds_toArray, List.set_cons_zero, List.set_cons_succ, i64_w, i32_w]
       rfl
      refine pure_ (i := 7) (N := some 67) (v := ?_) (a' := ?_) #[true, true, true, true, true, true, true, true, false, false, false, false, false, false, false, false, false, false, false, false, false, false] rfl rfl (by kernel_rfl) (fun _ _ _ h => h) (Or.inl ⟨by rfl, ?_⟩) ?_ ?_
      rotate_left
      ·intro w'
       go_simp
       with_reducible rfl
      rotate_left
      ·simp only [Act.put, List.setIfInBounds_toArray, List.set_cons_zero, List.set_cons_succ, i64_w, i32_w]
       rfl
      refine pure_ (i := 8) (N := some 68) (v := ?_) (a' := ?_) #[true, true, true, true, true, true, true, true, true, false, false, false, false, false, false, false, false, false, false, false, false, false] rfl rfl (by kernel_rfl) (fun _ _ _ h => h) (Or.inl ⟨by rfl, ?_⟩) ?_ ?_
      rotate_left
      ·intro w'
       go_simp
       with_reducible rfl
      rotate_left
      ·simp only [Act.put, List.setIfInBounds_toArray, List.set_cons_zero, List.set_cons_succ, i64_w, i32_w]
       rfl
      refine pure_ (i := 9) (N := some 69) (v := ?_) (a' := ?_) #[true, true, true, true, true, true, true, true, true, true, false, false, false, false, false, false, false, false, false, false, false, false] rfl rfl (by kernel_rfl) (fun _ _ _ h => h) (Or.inl ⟨by rfl, ?_⟩) ?_ ?_
      rotate_left
      ·intro w'
       go_simp
       with_reducible rfl
      rotate_left
      ·simp only [Act.put, List.setIfInBounds_toArray, List.set_cons_zero, List.set_cons_succ, i64_w, i32_w]
       rfl
      refine pure_ (i := 10) (N := some 70) (v := ?_) (a' := ?_) #[true, true, true, true, true, true, true, true, true, true, true, false, false, false, false, false, false, false, false, false, false, false] rfl rfl (by kernel_rfl) (fun _ _ _ h => h) (Or.inl ⟨by rfl, ?_⟩) ?_ ?_
      rotate_left
      ·intro w'
       go_simp
       with_reducible rfl
      rotate_left
      ·simp only [Act.put, List.setIfInBounds_toArray, List.set_cons_zero, List.set_cons_succ, i64_w, i32_w]
       rfl
      refine pure_ (i := 12) (N := some 72) (v := ?_) (a' := ?_) #[true, true, true, true, true, true, true, true, true, true, true, false, true, false, false, false, false, false, false, false, false, false] rfl rfl (by kernel_rfl) (fun _ _ _ h => h) (Or.inl ⟨by rfl, ?_⟩) ?_ ?_
      rotate_left
      ·intro w'
       go_simp
       with_reducible rfl
      rotate_left
      ·simp only [Act.put, List.setIfInBounds_toArray, List.set_cons_zero, List.set_cons_succ, i64_w, i32_w]
       rfl
      refine pure_ (i := 13) (N := some 73) (v := ?_) (a' := ?_) #[true, true, true, true, true, true, true, true, true, true, true, false, true, true, false, false, false, false, false, false, false, false] rfl rfl (by kernel_rfl) (fun _ _ _ h => h) (Or.inl ⟨by rfl, ?_⟩) ?_ ?_
      rotate_left
      ·intro w'
       go_simp
       with_reducible rfl
      rotate_left
      ·simp only [Act.put, List.setIfInBounds_toArray, List.set_cons_zero, List.set_cons_succ, i64_w, i32_w]
       rfl
      refine pure_ (i := 14) (N := some 74) (v := ?_) (a' := ?_) #[true, true, true, true, true, true, true, true, true, true, true, false, true, true, true, false, false, false, false, false, false, false] rfl rfl (by kernel_rfl) (fun _ _ _ h => h) (Or.inl ⟨by rfl, ?_⟩) ?_ ?_
      rotate_left
      ·intro w'
       go_simp
       with_reducible rfl
      rotate_left
      ·simp only [Act.put, List.setIfInBounds_toArray, List.set_cons_zero, List.set_cons_succ, i64_w, i32_w]
       rfl
      refine pure_ (i := 15) (N := some 75) (v := ?_) (a' := ?_) #[true, true, true, true, true, true, true, true, true, true, true, false, true, true, true, true, false, false, false, false, false, false] rfl rfl (by kernel_rfl) (fun _ _ _ h => h) (Or.inl ⟨by rfl, ?_⟩) ?_ ?_
      rotate_left
      ·intro w'
       go_simp
       with_reducible rfl
      rotate_left
      ·simp only [Act.put, List.setIfInBounds_toArray, List.set_cons_zero, List.set_cons_succ, i64_w, i32_w]
       rfl
      refine pure_ (i := 16) (N := some 76) (v := ?_) (a' := ?_) #[true, true, true, true, true, true, true, true, true, true, true, false, true, true, true, true, true, false, false, false, false, false] rfl rfl (by kernel_rfl) (fun _ _ _ h => h) (Or.inl ⟨by rfl, ?_⟩) ?_ ?_
      rotate_left
      ·intro w'
       go_simp
       with_reducible rfl
      rotate_left
      ·simp only [Act.put, List.setIfInBounds_toArray, List.set_cons_zero, List.set_cons_succ, i64_w, i32_w]
       rfl
      refine pure_ (i := 17) (N := some 77) (v := ?_) (a' := ?_) #[true, true, true, true, true, true, true, true, true, true, true, false, true, true, true, true, true, true, false, false, false, false] rfl rfl (by kernel_rfl) (fun _ _ _ h => h) (Or.inl ⟨by rfl, ?_⟩) ?_ ?_
      rotate_left
      ·intro w'
       go_simp
       with_reducible rfl
      rotate_left
      ·simp only [Act.put, List.setIfInBounds_toArray, List.set_cons_zero, List.set_cons_succ, i64_w, i32_w]
       rfl
      refine take_ (i := 11) (N := some 71) (v := ?_) (a' := ?_) #[true, true, true, true, true, true, true, true, true, true, true, true, true, true, true, true, true, true, false, false, false, false] rfl rfl (by kernel_rfl) (fun _ _ _ h => h) (Or.inl ⟨by rfl, ?_⟩) hHeld ?_ ?_
      rotate_left
      ·intro w' s0
       go_simp
       with_reducible rfl
      rotate_left
      ·simp only [Act.put, List.setIfInBounds_toArray, List.set_cons_zero, List.set_cons_succ, i64_w, i32_w]
       rfl
      refine one_ (i := 18) (N := some 78) #[true, true, true, true, true, true, true, true, true, true, true, true, true, true, true, true, true, true, true, false, false, false] rfl rfl (by kernel_rfl) (by decide) (fun K hK => ?_)
      refine value_ (w1 := ?_) (v := ?_) (by rfl) rfl ?_ ?_
      rotate_left 2
      ·go_simp
       constructor
       ·rfl
       ·rfl
      refine hK.out _ _ (((below_alloc (Below.refl w7.heap.size w7) _).cell (World.block_lt_of_cell? _ _ PD.out)).trans PD.out) (fun hHeld => ?_)
      clear hK K
      refine norm_ (a' := ?_) ?_ ?_
      rotate_left
      ·show Act.put _ (some 78) _ = _
       simp only [Act.put, List.setIfInBounds_toArray, List.set_cons_zero, List.set_cons_succ, i64_w, i32_w]
       rfl
      refine one_ (i := 19) (N := some 79) #[true, true, true, true, true, true, true, true, true, true, true, true, true, true, true, true, true, true, true, true, false, false] rfl rfl (by kernel_rfl) (by decide) (fun K hK => ?_)
      have hce := str_one w7 (97 + v)
      refine value_ (w1 := ?_) (v := ?_) (by rfl) rfl ?_ ?_
      rotate_left 2
      ·go_simp
       constructor
       ·rfl
       ·rfl
      clear hce
      refine hK.out _ _ (((below_alloc (Below.refl w7.heap.size w7) _).cell (World.block_lt_of_cell? _ _ PD.out)).trans PD.out) (fun hHeld => ?_)
      clear hK K
      refine norm_ (a' := ?_) ?_ ?_
      rotate_left
      ·show Act.put _ (some 79) _ = _
       simp only [Act.put, List.setIfInBounds_toArray, List.set_cons_zero, List.set_cons_succ, i64_w, i32_w]
       rfl
      refine pure_ (i := 20) (N := some 80) (v := ?_) (a' := ?_) #[true, true, true, true, true, true, true, true, true, true, true, true, true, true, true, true, true, true, true, true, true, false] rfl rfl (by kernel_rfl) (fun _ _ _ h => h) (Or.inl ⟨by rfl, ?_⟩) ?_ ?_
      rotate_left
      ·intro w'
       go_simp
       with_reducible rfl
      rotate_left
      ·simp only [Act.put, List.setIfInBounds_toArray, List.set_cons_zero, List.set_cons_succ, i64_w, i32_w]
       rfl
      refine pure_ (i := 21) (N := some 81) (v := ?_) (a' := ?_) #[true, true, true, true, true, true, true, true, true, true, true, true, true, true, true, true, true, true, true, true, true, true] rfl rfl (by kernel_rfl) (fun _ _ _ h => h) (Or.inl ⟨by rfl, ?_⟩) ?_ ?_
      rotate_left
      ·intro w'
       go_simp
       with_reducible rfl
      rotate_left
      ·simp only [Act.put, List.setIfInBounds_toArray, List.set_cons_zero, List.set_cons_succ, i64_w, i32_w]
       rfl
      refine done_ (by kernel_rfl) ?_
      go_wp2_with fail
      go_roundw
      case rel =>
       obtain ⟨P2, h⟩ : ∃ P2, St 63 35 P2 w.heap.size (w7.alloc (.cells #[.int .u8 (97 + v)] 5)) g _ _ := ⟨_, SD.out.alloc (.cells #[.int .u8 (97 + v)] 5)⟩
       refine ⟨y + 1, P2, by go_num, by omega, ⟨?_⟩, ⟨BD.out.alloc BD.out.size _⟩⟩
       have h1 : 4 - (y + 1) = m := by have := HM1.out; omega
       have h2 : seg (lo + ((4 - (y + 1) : Nat) : Int)) (y + 1) = stp v :: seg (lo + ((4 - y : Nat) : Int)) y := by
        rw [h1, HM1.out, seg, HV.out, ← HV.out, show lo + ((m + 1 : Nat) : Int) = lo + (m : Int) + 1 by omega]
       rw [h1] at h2 ⊢
       rw [h2, HM1.out]
       exact h
      case measure => simp [intOf]; omega
     ·obtain rfl : y = 4 := by omega
      have S1 := Aside0.mk (show St 63 35 P w.heap.size _ g [] (seg lo 4) from by
       have h := HS.out
       rw [Nat.sub_self] at h
       have h0 : lo + ((0 : Nat) : Int) = lo := by omega
       rw [h0] at h
       exact h)
      clear HS
      go_wp2_with fail
      refine (undo_no P w.heap.size g _ _ S1.out).mono ?_
      rintro e w6 ⟨rfl, rfl⟩
      go_wp2_with fail
      go_loopw [12] (fun i wr => ∃ (z : Nat) (P : Nat → Prop), i = .int .i64 (z : Int) ∧ z ≤ 4 ∧ Aside0 (St 63 35 P w.heap.size wr g (seg lo z) (seg (lo + (z : Int)) (4 - z))) ∧ Aside0 (Below w.heap.size w wr)) (fun i _ => (4 - (intOf i).toNat))
      case atStart => exact ⟨0, P, rfl, Nat.zero_le _, ⟨by have h := S1.out; rw [show lo + ((0 : Nat) : Int) = lo by omega]; exact h⟩, HB⟩
      case round =>
       clear S1 HB
       obtain ⟨z, P, rfl, hzq, HS, HB⟩ := hrel
       by_cases hlz : z < 4
       ·obtain ⟨m, hm⟩ : ∃ m, 4 - z = m + 1 := ⟨4 - z - 1, by omega⟩
        have hs := HS.out
        rw [hm, seg] at hs
        have HM1 := Aside0.mk hm
        have S1 := Aside0.mk hs
        have e2 : IntKind.i64.wrap ((z : Int) + 1) = (z : Int) + 1 := IntWalk.i64_in _ (by omega)
        have m4 : m ≤ 4 := by omega
        have z4 : z ≤ 4 := by omega
        obtain ⟨v, hv⟩ : ∃ v : Int, lo + (z : Int) = v := ⟨_, rfl⟩
        have hve : (x : Int) - (4 : Nat) + z = v := by rw [← hv]; omega
        have hv0 : 0 ≤ v := by rw [← hv]; omega
        have hv1 : v ≤ 20 := by rw [← hv]; omega
        rw [hv] at S1
        have HV := Aside0.mk hv
        have HVE := Aside0.mk hve
        clear hm hs HS hv hve
        go_wp2_with fail
        refine (redo_yes _ w.heap.size g (seg lo z) _ (stp v) _ S1.out HB.out.size (by rw [seg_len]; omega) (by rw [seg_len]; omega) (by simp [stp])).mono ?_
        rintro e w6 ⟨v6, rfl, ho, hs, hb, _⟩
        obtain ⟨A6, c6, rfl⟩ := Kd.R_slice ho
        have Y6 := Aside0.mk (show Kd.R k56 56 w6 _ (fun _ => True) (.slice A6 1 c6) [chg ⟨#[97]⟩ (strOfNums [97 + v]) (strOfNums [98 + v])] from ho)
        rw [show (stp v).length = 1 from rfl]
        have S6 := Aside0.mk hs
        have B6 := Aside0.mk (HB.out.trans hb)
        clear ho hs hb S1 HB
        obtain ⟨az, rfl, _, _, _, _, pz4⟩ := C_one56 (Kd.R_reads' Y6.out).2.2 rfl
        have PZ := Aside0.mk pz4
        clear pz4
        go_wp2_with fail
        have e1 : IntKind.i64.wrap (98 + (x : Int)) = 98 + (x : Int) := IntWalk.i64_in _ (by omega)
        have e3 : IntKind.i64.wrap (98 + (x : Int) - 4) = 98 + (x : Int) - 4 := IntWalk.i64_in _ (by omega)
        have e4 : IntKind.i64.wrap (98 + (x : Int) - 4 + (z : Int)) = 98 + v := by rw [show 98 + (x : Int) - 4 + (z : Int) = 98 + v by have := HVE.out; omega]; exact IntWalk.i64_in _ (by omega)
        have e5 : IntKind.u8.wrap (98 + v) = 98 + v := by simp [IntKind.wrap, IntKind.bits, IntKind.signed]; omega
        have e6 : (98 + v) % 256 = 98 + v := by omega
        have PD := Aside0.mk (((below_drew1 (Below.refl w6.heap.size w6)).cell (World.block_lt_of_cell? _ _ PZ.out)).trans PZ.out)
        have SD := Aside0.mk S6.out.drew
        have BD := Aside0.mk (below_drew1 B6.out)
        clear PZ S6 B6 Y6
        refine start_ (n := 18) (S := fun w' => w'.cell? ⟨az.block, az.off + 4, none⟩ = some (.string (strOfNums [98 + v]))) (ds := []) #[false, false, false, false, false, false, false, false, false, false, false, false, false, false, false, false, false, false] (by kernel_rfl) rfl rfl (PD.out) (fun hHeld => ?_)
        generalize w6.drew = w7 at PD SD BD hHeld ⊢
        refine pure_ (i := 0) (N := some 97) (v := ?_) (a' := ?_) #[true, false, false, false, false, false, false, false, false, false, false, false, false, false, false, false, false, false] rfl rfl (by kernel_rfl) (fun _ _ _ h => h) (Or.inl ⟨by rfl, ?_⟩) ?_ ?_
        rotate_left
        ·intro w'
         go_simp
         with_reducible rfl
        rotate_left
        ·simp only [Act.put, List.setIfInBounds_toArray, List.set_cons_zero, List.set_cons_succ, i64_w, i32_w]
         rfl
        refine pure_ (i := 1) (N := some 98) (v := ?_) (a' := ?_) #[true, true, false, false, false, false, false, false, false, false, false, false, false, false, false, false, false, false] rfl rfl (by kernel_rfl) (fun _ _ _ h => h) (Or.inl ⟨by rfl, ?_⟩) ?_ ?_
        rotate_left
        ·intro w'
         go_simp
         with_reducible rfl
        rotate_left
        ·simp only [Act.put, List.setIfInBounds_toArray, List.set_cons_zero, List.set_cons_succ, i64_w, i32_w]
         rfl
        refine pure_ (i := 2) (N := some 99) (v := ?_) (a' := ?_) #[true, true, true, false, false, false, false, false, false, false, false, false, false, false, false, false, false, false] rfl rfl (by kernel_rfl) (fun _ _ _ h => h) (Or.inl ⟨by rfl, ?_⟩) ?_ ?_
        rotate_left
        ·intro w'
         go_simp
         with_reducible rfl
        rotate_left
        ·simp only [Act.put, List.setIfInBounds_toArray, List.set_cons_zero, List.set_cons_succ, i64_w, i32_w]
         rfl
        refine pure_ (i := 3) (N := some 100) (v := ?_) (a' := ?_) #[true, true, true, true, false, false, false, false, false, false, false, false, false, false, false, false, false, false] rfl rfl (by kernel_rfl) (fun _ _ _ h => h) (Or.inl ⟨by rfl, ?_⟩) ?_ ?_
        rotate_left
        ·intro w'
         go_simp
         with_reducible rfl
        rotate_left
        ·simp only [Act.put, List.setIfInBounds_toArray, List.set_cons_zero, List.set_cons_succ, i64_w, i32_w]
         rfl
        refine pure_ (i := 4) (N := some 101) (v := ?_) (a' := ?_) #[true, true, true, true, true, false, false, false, false, false, false, false, false, false, false, false, false, false] rfl rfl (by kernel_rfl) (fun _ _ _ h => h) (Or.inl ⟨by rfl, ?_⟩) ?_ ?_
        rotate_left
        ·intro w'
         go_simp
         with_reducible rfl
        rotate_left
        ·simp only [Act.put, List.setIfInBounds_toArray, List.set_cons_zero, List.set_cons_succ, i64_w, i32_w]
         rfl
        refine pure_ (i := 5) (N := some 102) (v := ?_) (a' := ?_) #[true, true, true, true, true, true, false, false, false, false, false, false, false, false, false, false, false, false] rfl rfl (by kernel_rfl) (fun _ _ _ h => h) (Or.inl ⟨by rfl, ?_⟩) ?_ ?_
        rotate_left
        ·intro w'
         go_simp
         with_reducible rfl
        rotate_left
        ·simp only [Act.put, List.setIfInBounds_toArray, List.set_cons_zero, List.set_cons_succ, i64_w, i32_w]
         rfl
        refine pure_ (i := 7) (N := some 104) (v := ?_) (a' := ?_) #[true, true, true, true, true, true, false, true, false, false, false, false, false, false, false, false, false, false] rfl rfl (by kernel_rfl) (fun _ _ _ h => h) (Or.inl ⟨by rfl, ?_⟩) ?_ ?_
        rotate_left
        ·intro w'
         go_simp
         with_reducible rfl
        rotate_left
        ·simp only [Act.put, List.setIfInBounds_toArray, List.set_cons_zero, List.set_cons_succ, i64_w, i32_w]
         rfl
        refine pure_ (i := 8) (N := some 105) (v := ?_) (a' := ?_) #[true, true, true, true, true, true, false, true, true, false, false, false, false, false, false, false, false, false] rfl rfl (by kernel_rfl) (fun _ _ _ h => h) (Or.inl ⟨by rfl, ?_⟩) ?_ ?_
        rotate_left
        ·intro w'
         go_simp
         with_reducible rfl
        rotate_left
        ·simp only [Act.put, List.setIfInBounds_toArray, List.set_cons_zero, List.set_cons_succ, i64_w, i32_w]
         rfl
        refine pure_ (i := 9) (N := some 106) (v := ?_) (a' := ?_) #[true, true, true, true, true, true, false, true, true, true, false, false, false, false, false, false, false, false] rfl rfl (by kernel_rfl) (fun _ _ _ h => h) (Or.inl ⟨by rfl, ?_⟩) ?_ ?_
        rotate_left
        ·intro w'
         go_simp
         with_reducible rfl
        rotate_left
        ·simp only [Act.put, List.setIfInBounds_toArray, List.set_cons_zero, List.set_cons_succ, i64_w, i32_w]
         rfl
        refine pure_ (i := 10) (N := some 107) (v := ?_) (a' := ?_) #[true, true, true, true, true, true, false, true, true, true, true, false, false, false, false, false, false, false] rfl rfl (by kernel_rfl) (fun _ _ _ h => h) (Or.inl ⟨by rfl, ?_⟩) ?_ ?_
        rotate_left
        ·intro w'
         go_simp
         with_reducible rfl
        rotate_left
        ·simp only [Act.put, List.setIfInBounds_toArray, List.set_cons_zero, List.set_cons_succ, i64_w, i32_w]
         rfl
        refine pure_ (i := 11) (N := some 108) (v := ?_) (a' := ?_) #[true, true, true, true, true, true, false, true, true, true, true, true, false, false, false, false, false, false] rfl rfl (by kernel_rfl) (fun _ _ _ h => h) (Or.inl ⟨by rfl, ?_⟩) ?_ ?_
        rotate_left
        ·intro w'
         go_simp
         with_reducible rfl
        rotate_left
        ·simp only [Act.put, List.setIfInBounds_toArray, List.set_cons_zero, List.set_cons_succ, i64_w, i32_w]
         rfl
        refine pure_ (i := 12) (N := some 109) (v := ?_) (a' := ?_) #[true, true, true, true, true, true, false, true, true, true, true, true, true, false, false, false, false, false] rfl rfl (by kernel_rfl) (fun _ _ _ h => h) (Or.inl ⟨by rfl, ?_⟩) ?_ ?_
        rotate_left
        ·intro w'
         go_simp
         with_reducible rfl
        rotate_left
        ·simp only [Act.put, List.setIfInBounds_toArray, List.set_cons_zero, List.set_cons_succ, i64_w, i32_w]
         rfl
        refine pure_ (i := 13) (N := some 110) (v := ?_) (a' := ?_) #[true, true, true, true, true, true, false, true, true, true, true, true, true, true, false, false, false, false] rfl rfl (by kernel_rfl) (fun _ _ _ h => h) (Or.inl ⟨by rfl, ?_⟩) ?_ ?_
        rotate_left
        ·intro w'
         go_simp
         with_reducible rfl
        rotate_left
        ·simp only [Act.put, List.setIfInBounds_toArray, List.set_cons_zero, List.set_cons_succ, i64_w, i32_w]
         rfl
        refine take_ (i := 6) (N := some 103) (v := ?_) (a' := ?_) #[true, true, true, true, true, true, true, true, true, true, true, true, true, true, false, false, false, false] rfl rfl (by kernel_rfl) (fun _ _ _ h => h) (Or.inl ⟨by rfl, ?_⟩) hHeld ?_ ?_
        rotate_left
        ·intro w' s0
         go_simp
         with_reducible rfl
        rotate_left
        ·simp only [Act.put, List.setIfInBounds_toArray, List.set_cons_zero, List.set_cons_succ, i64_w, i32_w]
         rfl
        refine one_ (i := 14) (N := some 111) #[true, true, true, true, true, true, true, true, true, true, true, true, true, true, true, false, false, false] rfl rfl (by kernel_rfl) (by decide) (fun K hK => ?_)
        refine value_ (w1 := ?_) (v := ?_) (by rfl) rfl ?_ ?_
        rotate_left 2
        ·go_simp
         constructor
         ·rfl
         ·rfl
        refine hK.out _ _ (((below_alloc (Below.refl w7.heap.size w7) _).cell (World.block_lt_of_cell? _ _ PD.out)).trans PD.out) (fun hHeld => ?_)
        clear hK K
        refine norm_ (a' := ?_) ?_ ?_
        rotate_left
        ·show Act.put _ (some 111) _ = _
         simp only [Act.put, List.setIfInBounds_toArray, List.set_cons_zero, List.set_cons_succ, i64_w, i32_w]
         rfl
        refine one_ (i := 15) (N := some 112) #[true, true, true, true, true, true, true, true, true, true, true, true, true, true, true, true, false, false] rfl rfl (by kernel_rfl) (by decide) (fun K hK => ?_)
        have hce := str_one w7 (98 + v)
        refine value_ (w1 := ?_) (v := ?_) (by rfl) rfl ?_ ?_
        rotate_left 2
        ·go_simp
         constructor
         ·rfl
         ·rfl
        clear hce
        refine hK.out _ _ (((below_alloc (Below.refl w7.heap.size w7) _).cell (World.block_lt_of_cell? _ _ PD.out)).trans PD.out) (fun hHeld => ?_)
        clear hK K
        refine norm_ (a' := ?_) ?_ ?_
        rotate_left
        ·show Act.put _ (some 112) _ = _
         simp only [Act.put, List.setIfInBounds_toArray, List.set_cons_zero, List.set_cons_succ, i64_w, i32_w]
         rfl
        refine pure_ (i := 16) (N := some 113) (v := ?_) (a' := ?_) #[true, true, true, true, true, true, true, true, true, true, true, true, true, true, true, true, true, false] rfl rfl (by kernel_rfl) (fun _ _ _ h => h) (Or.inl ⟨by rfl, ?_⟩) ?_ ?_
        rotate_left
        ·intro w'
         go_simp
         with_reducible rfl
        rotate_left
        ·simp only [Act.put, List.setIfInBounds_toArray, List.set_cons_zero, List.set_cons_succ, i64_w, i32_w]
         rfl
        refine pure_ (i := 17) (N := some 114) (v := ?_) (a' := ?_) #[true, true, true, true, true, true, true, true, true, true, true, true, true, true, true, true, true, true] rfl rfl (by kernel_rfl) (fun _ _ _ h => h) (Or.inl ⟨by rfl, ?_⟩) ?_ ?_
        rotate_left
        ·intro w'
         go_simp
         with_reducible rfl
        rotate_left
        ·simp only [Act.put, List.setIfInBounds_toArray, List.set_cons_zero, List.set_cons_succ, i64_w, i32_w]
         rfl
        refine done_ (by kernel_rfl) ?_
        go_wp2_with fail
        go_roundw
        case rel =>
         obtain ⟨P2, h⟩ : ∃ P2, St 63 35 P2 w.heap.size (w7.alloc (.cells #[.int .u8 (98 + v)] 5)) g _ _ := ⟨_, SD.out.alloc (.cells #[.int .u8 (98 + v)] 5)⟩
         refine ⟨z + 1, P2, by go_num, by omega, ⟨?_⟩, ⟨BD.out.alloc BD.out.size _⟩⟩
         have h1 : 4 - (z + 1) = m := by have := HM1.out; omega
         rw [seg_snoc, HV.out, h1, show lo + ((z + 1 : Nat) : Int) = lo + (z : Int) + 1 by omega, HV.out]
         exact h
        case measure => simp [intOf]; omega
       ·obtain rfl : z = 4 := by omega
        have S1 := Aside0.mk (show St 63 35 P w.heap.size _ g (seg lo 4) [] from by
         have h := HS.out
         rw [Nat.sub_self] at h
         exact h)
        clear HS
        go_wp2_with fail
        refine (redo_no P w.heap.size g _ _ S1.out).mono ?_
        rintro e w6 ⟨rfl, rfl⟩
        go_wp2_with fail
        refine (len_yes P w.heap.size g _ _ _ S1.out).mono ?_
        rintro e w7 ⟨rfl, ⟨n7, rfl⟩⟩
        rw [seg_len]
        have B7 := Aside0.mk (pw_below_drewN HB.out n7)
        clear S1 HB
        go_wp2_with fail
        go_ret
        exact ⟨rfl, B7.out⟩
   ·have hmi : ((4 : Int) < (x : Int)) = False := eq_false (by omega)
    obtain rfl : x = q := by rw [← HQ.out]; exact (Nat.min_eq_left (by omega)).symm
    have hlx : (lo : Int) + (x : Nat) = (x : Int) := by have := HLO.out; omega
    clear HU2
    go_wp2_with fail
    go_loopw [7] (fun i wr => ∃ (y : Nat) (P : Nat → Prop), i = .int .i64 (y : Int) ∧ y ≤ x ∧ Aside0 (St 63 35 P w.heap.size wr g (seg lo (x - y)) (seg (lo + ((x - y : Nat) : Int)) y)) ∧ Aside0 (Below w.heap.size w wr)) (fun i _ => (x - (intOf i).toNat))
    case atStart => exact ⟨0, P, rfl, Nat.zero_le _, ⟨HS.out⟩, HB⟩
    case round =>
     clear HS HB
     obtain ⟨y, P, rfl, hyq, HS, HB⟩ := hrel
     by_cases hlt : y < x
     ·obtain ⟨m, hm⟩ : ∃ m, x - y = m + 1 := ⟨x - y - 1, by omega⟩
      have hs := HS.out
      rw [hm, seg_snoc] at hs
      have HM1 := Aside0.mk hm
      have S1 := Aside0.mk hs
      have e2 : IntKind.i64.wrap ((y : Int) + 1) = (y : Int) + 1 := IntWalk.i64_in _ (by omega)
      have m4 : m ≤ 4 := by omega
      have y4 : y ≤ 4 := by omega
      obtain ⟨v, hv⟩ : ∃ v : Int, lo + (m : Int) = v := ⟨_, rfl⟩
      have hve : (x : Int) - 1 - y = v := by rw [← hv]; omega
      have hv0 : 0 ≤ v := by rw [← hv]; omega
      have hv1 : v ≤ 20 := by rw [← hv]; omega
      rw [hv] at S1
      have HV := Aside0.mk hv
      have HVE := Aside0.mk hve
      clear hm hs HS hv hve
      go_wp2_with fail
      refine (undo_yes _ w.heap.size g (seg lo m) _ (stp v) _ S1.out HB.out.size (by rw [seg_len]; omega) (by rw [seg_len]; omega) (by simp [stp])).mono ?_
      rintro e w6 ⟨v6, rfl, ho, hs, hb, _⟩
      obtain ⟨A6, c6, rfl⟩ := Kd.R_slice ho
      have Y6 := Aside0.mk (show Kd.R k56 56 w6 _ (fun _ => True) (.slice A6 1 c6) [chg ⟨#[97]⟩ (strOfNums [97 + v]) (strOfNums [98 + v])] from ho)
      rw [show (stp v).length = 1 from rfl]
      have S6 := Aside0.mk hs
      have B6 := Aside0.mk (HB.out.trans hb)
      clear ho hs hb S1 HB
      obtain ⟨az, rfl, _, _, _, pz3, _⟩ := C_one56 (Kd.R_reads' Y6.out).2.2 rfl
      have PZ := Aside0.mk pz3
      clear pz3
      go_wp2_with fail
      have e1 : IntKind.i64.wrap (97 + (x : Int)) = 97 + (x : Int) := IntWalk.i64_in _ (by omega)
      have e3 : IntKind.i64.wrap (97 + (x : Int) - 1) = 97 + (x : Int) - 1 := IntWalk.i64_in _ (by omega)
      have e4 : IntKind.i64.wrap (97 + (x : Int) - 1 - (y : Int)) = 97 + v := by rw [show 97 + (x : Int) - 1 - (y : Int) = 97 + v by have := HVE.out; omega]; exact IntWalk.i64_in _ (by omega)
      have e5 : IntKind.u8.wrap (97 + v) = 97 + v := by simp [IntKind.wrap, IntKind.bits, IntKind.signed]; omega
      have e6 : (97 + v) % 256 = 97 + v := by omega
      have PD := Aside0.mk (((below_drew1 (Below.refl w6.heap.size w6)).cell (World.block_lt_of_cell? _ _ PZ.out)).trans PZ.out)
      have SD := Aside0.mk S6.out.drew
      have BD := Aside0.mk (below_drew1 B6.out)
      clear PZ S6 B6 Y6
      refine start_ (n := 22) (S := fun w' => w'.cell? ⟨az.block, az.off + 3, none⟩ = some (.string (strOfNums [97 + v]))) (ds := []) #[false, false, false, false, false, false, false, false, false, false, false, false, false, false, false, false, false, false, false, false, false, false] (by kernel_rfl) rfl rfl (PD.out) (fun hHeld => ?_)
      generalize w6.drew = w7 at PD SD BD hHeld ⊢
      refine pure_ (i := 0) (N := some 60) (v := ?_) (a' := ?_) #[true, false, false, false, false, false, false, false, false, false, false, false, false, false, false, false, false, false, false, false, false, false] rfl rfl (by kernel_rfl) (fun _ _ _ h => h) (Or.inl ⟨by rfl, ?_⟩) ?_ ?_
      rotate_left
      ·intro w'
       go_simp
       with_reducible rfl
      rotate_left
      ·simp only [Act.put, List.setIfInBounds_toArray, List.set_cons_zero, List.set_cons_succ, i64_w, i32_w]
       rfl
      refine pure_ (i := 1) (N := some 61) (v := ?_) (a' := ?_) #[true, true, false, false, false, false, false, false, false, false, false, false, false, false, false, false, false, false, false, false, false, false] rfl rfl (by kernel_rfl) (fun _ _ _ h => h) (Or.inl ⟨by rfl, ?_⟩) ?_ ?_
      rotate_left
      ·intro w'
       go_simp
       with_reducible rfl
      rotate_left
      ·simp only [Act.put, List.setIfInBounds_toArray, List.set_cons_zero, List.set_cons_succ, i64_w, i32_w]
       rfl
      refine pure_ (i := 2) (N := some 62) (v := ?_) (a' := ?_) #[true, true, true, false, false, false, false, false, false, false, false, false, false, false, false, false, false, false, false, false, false, false] rfl rfl (by kernel_rfl) (fun _ _ _ h => h) (Or.inl ⟨by rfl, ?_⟩) ?_ ?_
      rotate_left
      ·intro w'
       go_simp
       with_reducible rfl
      rotate_left
      ·simp only [Act.put, List.setIfInBounds_toArray, List.set_cons_zero, List.set_cons_succ, i64_w, i32_w]
       rfl
      refine pure_ (i := 3) (N := some 63) (v := ?_) (a' := ?_) #[true, true, true, true, false, false, false, false, false, false, false, false, false, false, false, false, false, false, false, false, false, false] rfl rfl (by kernel_rfl) (fun _ _ _ h => h) (Or.inl ⟨by rfl, ?_⟩) ?_ ?_
      rotate_left
      ·intro w'
       go_simp
       with_reducible rfl
      rotate_left
      ·simp only [Act.put, List.setIfInBounds_toArray, List.set_cons_zero, List.set_cons_succ, i64_w, i32_w]
       rfl
      refine pure_ (i := 4) (N := some 64) (v := ?_) (a' := ?_) #[true, true, true, true, true, false, false, false, false, false, false, false, false, false, false, false, false, false, false, false, false, false] rfl rfl (by kernel_rfl) (fun _ _ _ h => h) (Or.inl ⟨by rfl, ?_⟩) ?_ ?_
      rotate_left
      ·intro w'
       go_simp
       with_reducible rfl
      rotate_left
      ·simp only [Act.put, List.setIfInBounds_toArray, List.set_cons_zero, List.set_cons_succ, i64_w, i32_w]
       rfl
      refine pure_ (i := 5) (N := some 65) (v := ?_) (a' := ?_) #[true, true, true, true, true, true, false, false, false, false, false, false, false, false, false, false, false, false, false, false, false, false] rfl rfl (by kernel_rfl) (fun _ _ _ h => h) (Or.inl ⟨by rfl, ?_⟩) ?_ ?_
      rotate_left
      ·intro w'
       go_simp
       with_reducible rfl
      rotate_left
      ·simp only [Act.put, List.setIfInBounds_toArray, List.set_cons_zero, List.set_cons_succ, i64_w, i32_w]
       rfl
      refine pure_ (i := 6) (N := some 66) (v := ?_) (a' := ?_) #[true, true, true, true, true, true, true, false, false, false, false, false, false, false, false, false, false, false, false, false, false, false] rfl rfl (by kernel_rfl) (fun _ _ _ h => h) (Or.inl ⟨by rfl, ?_⟩) ?_ ?_
      rotate_left
      ·intro w'
       go_simp
       with_reducible rfl
      rotate_left
      ·simp only [Act.put, List.setIfInBounds_toArray, List.set_cons_zero, List.set_cons_succ, i64_w, i32_w]
       rfl
      refine pure_ (i := 7) (N := some 67) (v := ?_) (a' := ?_) #[true, true, true, true, true, true, true, true, false, false, false, false, false, false, false, false, false, false, false, false, false, false] rfl rfl (by kernel_rfl) (fun _ _ _ h => h) (Or.inl ⟨by rfl, ?_⟩) ?_ ?_
      rotate_left
      ·intro w'
       go_simp
       with_reducible rfl
      rotate_left
      ·simp only [Act.put, List.setIfInBounds_toArray, List.set_cons_zero, List.set_cons_succ, i64_w, i32_w]
       rfl
      refine pure_ (i := 8) (N := some 68) (v := ?_) (a' := ?_) #[true, true, true, true, true, true, true, true, true, false, false, false, false, false, false, false, false, false, false, false, false, false] rfl rfl (by kernel_rfl) (fun _ _ _ h => h) (Or.inl ⟨by rfl, ?_⟩) ?_ ?_
      rotate_left
      ·intro w'
       go_simp
       with_reducible rfl
      rotate_left
      ·simp only [Act.put, List.setIfInBounds_toArray, List.set_cons_zero, List.set_cons_succ, i64_w, i32_w]
       rfl
      refine pure_ (i := 9) (N := some 69) (v := ?_) (a' := ?_) #[true, true, true, true, true, true, true, true, true, true, false, false, false, false, false, false, false, false, false, false, false, false] rfl rfl (by kernel_rfl) (fun _ _ _ h => h) (Or.inl ⟨by rfl, ?_⟩) ?_ ?_
      rotate_left
      ·intro w'
       go_simp
       with_reducible rfl
      rotate_left
      ·simp only [Act.put, List.setIfInBounds_toArray, List.set_cons_zero, List.set_cons_succ, i64_w, i32_w]
       rfl
      refine pure_ (i := 10) (N := some 70) (v := ?_) (a' := ?_) #[true, true, true, true, true, true, true, true, true, true, true, false, false, false, false, false, false, false, false, false, false, false] rfl rfl (by kernel_rfl) (fun _ _ _ h => h) (Or.inl ⟨by rfl, ?_⟩) ?_ ?_
      rotate_left
      ·intro w'
       go_simp
       with_reducible rfl
      rotate_left
      ·simp only [Act.put, List.setIfInBounds_toArray, List.set_cons_zero, List.set_cons_succ, i64_w, i32_w]
       rfl
      refine pure_ (i := 12) (N := some 72) (v := ?_) (a' := ?_) #[true, true, true, true, true, true, true, true, true, true, true, false, true, false, false, false, false, false, false, false, false, false] rfl rfl (by kernel_rfl) (fun _ _ _ h => h) (Or.inl ⟨by rfl, ?_⟩) ?_ ?_
      rotate_left
      ·intro w'
       go_simp
       with_reducible rfl
      rotate_left
      ·simp only [Act.put, List.setIfInBounds_toArray, List.set_cons_zero, List.set_cons_succ, i64_w, i32_w]
       rfl
      refine pure_ (i := 13) (N := some 73) (v := ?_) (a' := ?_) #[true, true, true, true, true, true, true, true, true, true, true, false, true, true, false, false, false, false, false, false, false, false] rfl rfl (by kernel_rfl) (fun _ _ _ h => h) (Or.inl ⟨by rfl, ?_⟩) ?_ ?_
      rotate_left
      ·intro w'
       go_simp
       with_reducible rfl
      rotate_left
      ·simp only [Act.put, List.setIfInBounds_toArray, List.set_cons_zero, List.set_cons_succ, i64_w, i32_w]
       rfl
      refine pure_ (i := 14) (N := some 74) (v := ?_) (a' := ?_) #[true, true, true, true, true, true, true, true, true, true, true, false, true, true, true, false, false, false, false, false, false, false] rfl rfl (by kernel_rfl) (fun _ _ _ h => h) (Or.inl ⟨by rfl, ?_⟩) ?_ ?_
      rotate_left
      ·intro w'
       go_simp
       with_reducible rfl
      rotate_left
      ·simp only [Act.put, List.setIfInBounds_toArray, List.set_cons_zero, List.set_cons_succ, i64_w, i32_w]
       rfl
      refine pure_ (i := 15) (N := some 75) (v := ?_) (a' := ?_) #[true, true, true, true, true, true, true, true, true, true, true, false, true, true, true, true, false, false, false, false, false, false] rfl rfl (by kernel_rfl) (fun _ _ _ h => h) (Or.inl ⟨by rfl, ?_⟩) ?_ ?_
      rotate_left
      ·intro w'
       go_simp
       with_reducible rfl
      rotate_left
      ·simp only [Act.put, List.setIfInBounds_toArray, List.set_cons_zero, List.set_cons_succ, i64_w, i32_w]
       rfl
      refine pure_ (i := 16) (N := some 76) (v := ?_) (a' := ?_) #[true, true, true, true, true, true, true, true, true, true, true, false, true, true, true, true, true, false, false, false, false, false] rfl rfl (by kernel_rfl) (fun _ _ _ h => h) (Or.inl ⟨by rfl, ?_⟩) ?_ ?_
      rotate_left
      ·intro w'
       go_simp
       with_reducible rfl
      rotate_left
      ·simp only [Act.put, List.setIfInBounds_toArray, List.set_cons_zero, List.set_cons_succ, i64_w, i32_w]
       rfl
      refine pure_ (i := 17) (N := some 77) (v := ?_) (a' := ?_) #[true, true, true, true, true, true, true, true, true, true, true, false, true, true, true, true, true, true, false, false, false, false] rfl rfl (by kernel_rfl) (fun _ _ _ h => h) (Or.inl ⟨by rfl, ?_⟩) ?_ ?_
      rotate_left
      ·intro w'
       go_simp
       with_reducible rfl
      rotate_left
      ·simp only [Act.put, List.setIfInBounds_toArray, List.set_cons_zero, List.set_cons_succ, i64_w, i32_w]
       rfl
      refine take_ (i := 11) (N := some 71) (v := ?_) (a' := ?_) #[true, true, true, true, true, true, true, true, true, true, true, true, true, true, true, true, true, true, false, false, false, false] rfl rfl (by kernel_rfl) (fun _ _ _ h => h) (Or.inl ⟨by rfl, ?_⟩) hHeld ?_ ?_
      rotate_left
      ·intro w' s0
       go_simp
       with_reducible rfl
      rotate_left
      ·simp only [Act.put, List.setIfInBounds_toArray, List.set_cons_zero, List.set_cons_succ, i64_w, i32_w]
       rfl
      refine one_ (i := 18) (N := some 78) #[true, true, true, true, true, true, true, true, true, true, true, true, true, true, true, true, true, true, true, false, false, false] rfl rfl (by kernel_rfl) (by decide) (fun K hK => ?_)
      refine value_ (w1 := ?_) (v := ?_) (by rfl) rfl ?_ ?_
      rotate_left 2
      ·go_simp
       constructor
       ·rfl
       ·rfl
      refine hK.out _ _ (((below_alloc (Below.refl w7.heap.size w7) _).cell (World.block_lt_of_cell? _ _ PD.out)).trans PD.out) (fun hHeld => ?_)
      clear hK K
      refine norm_ (a' := ?_) ?_ ?_
      rotate_left
      ·show Act.put _ (some 78) _ = _
       simp only [Act.put, List.setIfInBounds_toArray, List.set_cons_zero, List.set_cons_succ, i64_w, i32_w]
       rfl
      refine one_ (i := 19) (N := some 79) #[true, true, true, true, true, true, true, true, true, true, true, true, true, true, true, true, true, true, true, true, false, false] rfl rfl (by kernel_rfl) (by decide) (fun K hK => ?_)
      have hce := str_one w7 (97 + v)
      refine value_ (w1 := ?_) (v := ?_) (by rfl) rfl ?_ ?_
      rotate_left 2
      ·go_simp
       constructor
       ·rfl
       ·rfl
      clear hce
      refine hK.out _ _ (((below_alloc (Below.refl w7.heap.size w7) _).cell (World.block_lt_of_cell? _ _ PD.out)).trans PD.out) (fun hHeld => ?_)
      clear hK K
      refine norm_ (a' := ?_) ?_ ?_
      rotate_left
      ·show Act.put _ (some 79) _ = _
       simp only [Act.put, List.setIfInBounds_toArray, List.set_cons_zero, List.set_cons_succ, i64_w, i32_w]
       rfl
      refine pure_ (i := 20) (N := some 80) (v := ?_) (a' := ?_) #[true, true, true, true, true, true, true, true, true, true, true, true, true, true, true, true, true, true, true, true, true, false] rfl rfl (by kernel_rfl) (fun _ _ _ h => h) (Or.inl ⟨by rfl, ?_⟩) ?_ ?_
      rotate_left
      ·intro w'
       go_simp
       with_reducible rfl
      rotate_left
      ·simp only [Act.put, List.setIfInBounds_toArray, List.set_cons_zero, List.set_cons_succ, i64_w, i32_w]
       rfl
      refine pure_ (i := 21) (N := some 81) (v := ?_) (a' := ?_) #[true, true, true, true, true, true, true, true, true, true, true, true, true, true, true, true, true, true, true, true, true, true] rfl rfl (by kernel_rfl) (fun _ _ _ h => h) (Or.inl ⟨by rfl, ?_⟩) ?_ ?_
      rotate_left
      ·intro w'
       go_simp
       with_reducible rfl
      rotate_left
      ·simp only [Act.put, List.setIfInBounds_toArray, List.set_cons_zero, List.set_cons_succ, i64_w, i32_w]
       rfl
      refine done_ (by kernel_rfl) ?_
      go_wp2_with fail
      go_roundw
      case rel =>
       obtain ⟨P2, h⟩ : ∃ P2, St 63 35 P2 w.heap.size (w7.alloc (.cells #[.int .u8 (97 + v)] 5)) g _ _ := ⟨_, SD.out.alloc (.cells #[.int .u8 (97 + v)] 5)⟩
       refine ⟨y + 1, P2, by go_num, by omega, ⟨?_⟩, ⟨BD.out.alloc BD.out.size _⟩⟩
       have h1 : x - (y + 1) = m := by have := HM1.out; omega
       have h2 : seg (lo + ((x - (y + 1) : Nat) : Int)) (y + 1) = stp v :: seg (lo + ((x - y : Nat) : Int)) y := by
        rw [h1, HM1.out, seg, HV.out, ← HV.out, show lo + ((m + 1 : Nat) : Int) = lo + (m : Int) + 1 by omega]
       rw [h1] at h2 ⊢
       rw [h2, HM1.out]
       exact h
      case measure => simp [intOf]; omega
     ·obtain rfl : x = y := by omega
      have S1 := Aside0.mk (show St 63 35 P w.heap.size _ g [] (seg lo x) from by
       have h := HS.out
       rw [Nat.sub_self] at h
       have h0 : lo + ((0 : Nat) : Int) = lo := by omega
       rw [h0] at h
       exact h)
      clear HS
      go_wp2_with fail
      refine (undo_no P w.heap.size g _ _ S1.out).mono ?_
      rintro e w6 ⟨rfl, rfl⟩
      go_wp2_with fail
      go_loopw [12] (fun i wr => ∃ (z : Nat) (P : Nat → Prop), i = .int .i64 (z : Int) ∧ z ≤ x ∧ Aside0 (St 63 35 P w.heap.size wr g (seg lo z) (seg (lo + (z : Int)) (x - z))) ∧ Aside0 (Below w.heap.size w wr)) (fun i _ => (x - (intOf i).toNat))
      case atStart => exact ⟨0, P, rfl, Nat.zero_le _, ⟨by have h := S1.out; rw [show lo + ((0 : Nat) : Int) = lo by omega]; exact h⟩, HB⟩
      case round =>
       clear S1 HB
       obtain ⟨z, P, rfl, hzq, HS, HB⟩ := hrel
       by_cases hlz : z < x
       ·obtain ⟨m, hm⟩ : ∃ m, x - z = m + 1 := ⟨x - z - 1, by omega⟩
        have hs := HS.out
        rw [hm, seg] at hs
        have HM1 := Aside0.mk hm
        have S1 := Aside0.mk hs
        have e2 : IntKind.i64.wrap ((z : Int) + 1) = (z : Int) + 1 := IntWalk.i64_in _ (by omega)
        have m4 : m ≤ 4 := by omega
        have z4 : z ≤ 4 := by omega
        obtain ⟨v, hv⟩ : ∃ v : Int, lo + (z : Int) = v := ⟨_, rfl⟩
        have hve : (x : Int) - (x : Nat) + z = v := by rw [← hv]; omega
        have hv0 : 0 ≤ v := by rw [← hv]; omega
        have hv1 : v ≤ 20 := by rw [← hv]; omega
        rw [hv] at S1
        have HV := Aside0.mk hv
        have HVE := Aside0.mk hve
        clear hm hs HS hv hve
        go_wp2_with fail
        refine (redo_yes _ w.heap.size g (seg lo z) _ (stp v) _ S1.out HB.out.size (by rw [seg_len]; omega) (by rw [seg_len]; omega) (by simp [stp])).mono ?_
        rintro e w6 ⟨v6, rfl, ho, hs, hb, _⟩
        obtain ⟨A6, c6, rfl⟩ := Kd.R_slice ho
        have Y6 := Aside0.mk (show Kd.R k56 56 w6 _ (fun _ => True) (.slice A6 1 c6) [chg ⟨#[97]⟩ (strOfNums [97 + v]) (strOfNums [98 + v])] from ho)
        rw [show (stp v).length = 1 from rfl]
        have S6 := Aside0.mk hs
        have B6 := Aside0.mk (HB.out.trans hb)
        clear ho hs hb S1 HB
        obtain ⟨az, rfl, _, _, _, _, pz4⟩ := C_one56 (Kd.R_reads' Y6.out).2.2 rfl
        have PZ := Aside0.mk pz4
        clear pz4
        go_wp2_with fail
        have e1 : IntKind.i64.wrap (98 + (x : Int)) = 98 + (x : Int) := IntWalk.i64_in _ (by omega)
        have e3 : IntKind.i64.wrap 98 = 98 := by rfl
        have e4 : IntKind.i64.wrap (98 + (z : Int)) = 98 + v := by rw [show 98 + (z : Int) = 98 + v by have := HVE.out; omega]; exact IntWalk.i64_in _ (by omega)
        have e5 : IntKind.u8.wrap (98 + v) = 98 + v := by simp [IntKind.wrap, IntKind.bits, IntKind.signed]; omega
        have e6 : (98 + v) % 256 = 98 + v := by omega
        have PD := Aside0.mk (((below_drew1 (Below.refl w6.heap.size w6)).cell (World.block_lt_of_cell? _ _ PZ.out)).trans PZ.out)
        have SD := Aside0.mk S6.out.drew
        have BD := Aside0.mk (below_drew1 B6.out)
        clear PZ S6 B6 Y6
        refine start_ (n := 18) (S := fun w' => w'.cell? ⟨az.block, az.off + 4, none⟩ = some (.string (strOfNums [98 + v]))) (ds := []) #[false, false, false, false, false, false, false, false, false, false, false, false, false, false, false, false, false, false] (by kernel_rfl) rfl rfl (PD.out) (fun hHeld => ?_)
        generalize w6.drew = w7 at PD SD BD hHeld ⊢
        refine pure_ (i := 0) (N := some 97) (v := ?_) (a' := ?_) #[true, false, false, false, false, false, false, false, false, false, false, false, false, false, false, false, false, false] rfl rfl (by kernel_rfl) (fun _ _ _ h => h) (Or.inl ⟨by rfl, ?_⟩) ?_ ?_
        rotate_left
        ·intro w'
         go_simp
         with_reducible rfl
        rotate_left
        ·simp only [Act.put, List.setIfInBounds_toArray, List.set_cons_zero, List.set_cons_succ, i64_w, i32_w]
         rfl
        refine pure_ (i := 1) (N := some 98) (v := ?_) (a' := ?_) #[true, true, false, false, false, false, false, false, false, false, false, false, false, false, false, false, false, false] rfl rfl (by kernel_rfl) (fun _ _ _ h => h) (Or.inl ⟨by rfl, ?_⟩) ?_ ?_
        rotate_left
        ·intro w'
         go_simp
         with_reducible rfl
        rotate_left
        ·simp only [Act.put, List.setIfInBounds_toArray, List.set_cons_zero, List.set_cons_succ, i64_w, i32_w]
         rfl
        refine pure_ (i := 2) (N := some 99) (v := ?_) (a' := ?_) #[true, true, true, false, false, false, false, false, false, false, false, false, false, false, false, false, false, false] rfl rfl (by kernel_rfl) (fun _ _ _ h => h) (Or.inl ⟨by rfl, ?_⟩) ?_ ?_
        rotate_left
        ·intro w'
         go_simp
         with_reducible rfl
        rotate_left
        ·simp only [Act.put, List.setIfInBounds_toArray, List.set_cons_zero, List.set_cons_succ, i64_w, i32_w]
         rfl
        refine pure_ (i := 3) (N := some 100) (v := ?_) (a' := ?_) #[true, true, true, true, false, false, false, false, false, false, false, false, false, false, false, false, false, false] rfl rfl (by kernel_rfl) (fun _ _ _ h => h) (Or.inl ⟨by rfl, ?_⟩) ?_ ?_
        rotate_left
        ·intro w'
         go_simp
         with_reducible rfl
        rotate_left
        ·simp only [Act.put, List.setIfInBounds_toArray, List.set_cons_zero, List.set_cons_succ, i64_w, i32_w]
         rfl
        refine pure_ (i := 4) (N := some 101) (v := ?_) (a' := ?_) #[true, true, true, true, true, false, false, false, false, false, false, false, false, false, false, false, false, false] rfl rfl (by kernel_rfl) (fun _ _ _ h => h) (Or.inl ⟨by rfl, ?_⟩) ?_ ?_
        rotate_left
        ·intro w'
         go_simp
         with_reducible rfl
        rotate_left
        ·simp only [Act.put, List.setIfInBounds_toArray, List.set_cons_zero, List.set_cons_succ, i64_w, i32_w]
         rfl
        refine pure_ (i := 5) (N := some 102) (v := ?_) (a' := ?_) #[true, true, true, true, true, true, false, false, false, false, false, false, false, false, false, false, false, false] rfl rfl (by kernel_rfl) (fun _ _ _ h => h) (Or.inl ⟨by rfl, ?_⟩) ?_ ?_
        rotate_left
        ·intro w'
         go_simp
         with_reducible rfl
        rotate_left
        ·simp only [Act.put, List.setIfInBounds_toArray, List.set_cons_zero, List.set_cons_succ, i64_w, i32_w]
         rfl
        refine pure_ (i := 7) (N := some 104) (v := ?_) (a' := ?_) #[true, true, true, true, true, true, false, true, false, false, false, false, false, false, false, false, false, false] rfl rfl (by kernel_rfl) (fun _ _ _ h => h) (Or.inl ⟨by rfl, ?_⟩) ?_ ?_
        rotate_left
        ·intro w'
         go_simp
         with_reducible rfl
        rotate_left
        ·simp only [Act.put, List.setIfInBounds_toArray, List.set_cons_zero, List.set_cons_succ, i64_w, i32_w]
         rfl
        refine pure_ (i := 8) (N := some 105) (v := ?_) (a' := ?_) #[true, true, true, true, true, true, false, true, true, false, false, false, false, false, false, false, false, false] rfl rfl (by kernel_rfl) (fun _ _ _ h => h) (Or.inl ⟨by rfl, ?_⟩) ?_ ?_
        rotate_left
        ·intro w'
         go_simp
         with_reducible rfl
        rotate_left
        ·simp only [Act.put, List.setIfInBounds_toArray, List.set_cons_zero, List.set_cons_succ, i64_w, i32_w]
         rfl
        refine pure_ (i := 9) (N := some 106) (v := ?_) (a' := ?_) #[true, true, true, true, true, true, false, true, true, true, false, false, false, false, false, false, false, false] rfl rfl (by kernel_rfl) (fun _ _ _ h => h) (Or.inl ⟨by rfl, ?_⟩) ?_ ?_
        rotate_left
        ·intro w'
         go_simp
         with_reducible rfl
        rotate_left
        ·simp only [Act.put, List.setIfInBounds_toArray, List.set_cons_zero, List.set_cons_succ, i64_w, i32_w]
         rfl
        refine pure_ (i := 10) (N := some 107) (v := ?_) (a' := ?_) #[true, true, true, true, true, true, false, true, true, true, true, false, false, false, false, false, false, false] rfl rfl (by kernel_rfl) (fun _ _ _ h => h) (Or.inl ⟨by rfl, ?_⟩) ?_ ?_
        rotate_left
        ·intro w'
         go_simp
         with_reducible rfl
        rotate_left
        ·simp only [Act.put, List.setIfInBounds_toArray, List.set_cons_zero, List.set_cons_succ, i64_w, i32_w]
         rfl
        refine pure_ (i := 11) (N := some 108) (v := ?_) (a' := ?_) #[true, true, true, true, true, true, false, true, true, true, true, true, false, false, false, false, false, false] rfl rfl (by kernel_rfl) (fun _ _ _ h => h) (Or.inl ⟨by rfl, ?_⟩) ?_ ?_
        rotate_left
        ·intro w'
         go_simp
         with_reducible rfl
        rotate_left
        ·simp only [Act.put, List.setIfInBounds_toArray, List.set_cons_zero, List.set_cons_succ, i64_w, i32_w]
         rfl
        refine pure_ (i := 12) (N := some 109) (v := ?_) (a' := ?_) #[true, true, true, true, true, true, false, true, true, true, true, true, true, false, false, false, false, false] rfl rfl (by kernel_rfl) (fun _ _ _ h => h) (Or.inl ⟨by rfl, ?_⟩) ?_ ?_
        rotate_left
        ·intro w'
         go_simp
         with_reducible rfl
        rotate_left
        ·simp only [Act.put, List.setIfInBounds_toArray, List.set_cons_zero, List.set_cons_succ, i64_w, i32_w]
         rfl
        refine pure_ (i := 13) (N := some 110) (v := ?_) (a' := ?_) #[true, true, true, true, true, true, false, true, true, true, true, true, true, true, false, false, false, false] rfl rfl (by kernel_rfl) (fun _ _ _ h => h) (Or.inl ⟨by rfl, ?_⟩) ?_ ?_
        rotate_left
        ·intro w'
         go_simp
         with_reducible rfl
        rotate_left
        ·simp only [Act.put, List.setIfInBounds_toArray, List.set_cons_zero, List.set_cons_succ, i64_w, i32_w]
         rfl
        refine take_ (i := 6) (N := some 103) (v := ?_) (a' := ?_) #[true, true, true, true, true, true, true, true, true, true, true, true, true, true, false, false, false, false] rfl rfl (by kernel_rfl) (fun _ _ _ h => h) (Or.inl ⟨by rfl, ?_⟩) hHeld ?_ ?_
        rotate_left
        ·intro w' s0
         go_simp
         with_reducible rfl
        rotate_left
        ·simp only [Act.put, List.setIfInBounds_toArray, List.set_cons_zero, List.set_cons_succ, i64_w, i32_w]
         rfl
        refine one_ (i := 14) (N := some 111) #[true, true, true, true, true, true, true, true, true, true, true, true, true, true, true, false, false, false] rfl rfl (by kernel_rfl) (by decide) (fun K hK => ?_)
        refine value_ (w1 := ?_) (v := ?_) (by rfl) rfl ?_ ?_
        rotate_left 2
        ·go_simp
         constructor
         ·rfl
         ·rfl
        refine hK.out _ _ (((below_alloc (Below.refl w7.heap.size w7) _).cell (World.block_lt_of_cell? _ _ PD.out)).trans PD.out) (fun hHeld => ?_)
        clear hK K
        refine norm_ (a' := ?_) ?_ ?_
        rotate_left
        ·show Act.put _ (some 111) _ = _
         simp only [Act.put, List.setIfInBounds_toArray, List.set_cons_zero, List.set_cons_succ, i64_w, i32_w]
         rfl
        refine one_ (i := 15) (N := some 112) #[true, true, true, true, true, true, true, true, true, true, true, true, true, true, true, true, false, false] rfl rfl (by kernel_rfl) (by decide) (fun K hK => ?_)
        have hce := str_one w7 (98 + v)
        refine value_ (w1 := ?_) (v := ?_) (by rfl) rfl ?_ ?_
        rotate_left 2
        ·go_simp
         constructor
         ·rfl
         ·rfl
        clear hce
        refine hK.out _ _ (((below_alloc (Below.refl w7.heap.size w7) _).cell (World.block_lt_of_cell? _ _ PD.out)).trans PD.out) (fun hHeld => ?_)
        clear hK K
        refine norm_ (a' := ?_) ?_ ?_
        rotate_left
        ·show Act.put _ (some 112) _ = _
         simp only [Act.put, List.setIfInBounds_toArray, List.set_cons_zero, List.set_cons_succ, i64_w, i32_w]
         rfl
        refine pure_ (i := 16) (N := some 113) (v := ?_) (a' := ?_) #[true, true, true, true, true, true, true, true, true, true, true, true, true, true, true, true, true, false] rfl rfl (by kernel_rfl) (fun _ _ _ h => h) (Or.inl ⟨by rfl, ?_⟩) ?_ ?_
        rotate_left
        ·intro w'
         go_simp
         with_reducible rfl
        rotate_left
        ·simp only [Act.put, List.setIfInBounds_toArray, List.set_cons_zero, List.set_cons_succ, i64_w, i32_w]
         rfl
        refine pure_ (i := 17) (N := some 114) (v := ?_) (a' := ?_) #[true, true, true, true, true, true, true, true, true, true, true, true, true, true, true, true, true, true] rfl rfl (by kernel_rfl) (fun _ _ _ h => h) (Or.inl ⟨by rfl, ?_⟩) ?_ ?_
        rotate_left
        ·intro w'
         go_simp
         with_reducible rfl
        rotate_left
        ·simp only [Act.put, List.setIfInBounds_toArray, List.set_cons_zero, List.set_cons_succ, i64_w, i32_w]
         rfl
        refine done_ (by kernel_rfl) ?_
        go_wp2_with fail
        go_roundw
        case rel =>
         obtain ⟨P2, h⟩ : ∃ P2, St 63 35 P2 w.heap.size (w7.alloc (.cells #[.int .u8 (98 + v)] 5)) g _ _ := ⟨_, SD.out.alloc (.cells #[.int .u8 (98 + v)] 5)⟩
         refine ⟨z + 1, P2, by go_num, by omega, ⟨?_⟩, ⟨BD.out.alloc BD.out.size _⟩⟩
         have h1 : x - (z + 1) = m := by have := HM1.out; omega
         rw [seg_snoc, HV.out, h1, show lo + ((z + 1 : Nat) : Int) = lo + (z : Int) + 1 by omega, HV.out]
         exact h
        case measure => simp [intOf]; omega
       ·obtain rfl : x = z := by omega
        have S1 := Aside0.mk (show St 63 35 P w.heap.size _ g (seg lo x) [] from by
         have h := HS.out
         rw [Nat.sub_self] at h
         exact h)
        clear HS
        go_wp2_with fail
        refine (redo_no P w.heap.size g _ _ S1.out).mono ?_
        rintro e w6 ⟨rfl, rfl⟩
        go_wp2_with fail
        refine (len_yes P w.heap.size g _ _ _ S1.out).mono ?_
        rintro e w7 ⟨rfl, ⟨n7, rfl⟩⟩
        rw [seg_len]
        have B7 := Aside0.mk (pw_below_drewN HB.out n7)
        clear S1 HB
        go_wp2_with fail
        go_ret
        exact ⟨rfl, B7.out⟩
def FourOK (k : Nat) (n : Int) : Prop := BegunOK k ∧ ((n < 0 ∨ 20 < n) ∨ (0 ≤ n ∧ n ≤ 20 ∧ ∀ i : Nat, i < 20 → stack_May.f k (stp i) = some true))
noncomputable def recensionlaw25_StackFour.f (k : Nat) (a0 : Int) : Option Bool := @ite _ (FourOK k a0) (Classical.propDecidable _) (some true) none
theorem recensionlaw25_StackFour.calls (k : Nat) (a0 : Int) (r : Bool) (w : World) (hrt : Aside0 (r = true)) (h : recensionlaw25_StackFour.f k a0 = some r) :
  Calls Try.prog 5 #[.int .i64 a0] w fun e w' => e = .returned (.bool r) ∧ Below w.heap.size w w' := by
 obtain rfl := hrt.out
 by_cases hc : FourOK k a0
 ·obtain ⟨h1, h2 | ⟨h2, h3, h4⟩⟩ := hc
  ·exact four_out k a0 w h1 h2
  ·obtain ⟨n, rfl⟩ : ∃ n : Nat, a0 = n := ⟨a0.toNat, by omega⟩
   exact four_in k n w h1 (by omega) h4
 ·unfold recensionlaw25_StackFour.f at h
  rw [if_neg hc] at h
  cases h

end Go.Proofs.Ythjbcpakpfdkaaa.PStack
