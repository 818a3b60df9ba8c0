-- Written by myprint.py (the prover's own turn of the printer); not trusted: Lean checks it.
import Derived.Test.YthjbcpakpfdkaaaPStackx0
import Derived.Test.YthjbcpakpfdkaaaPStackx2
import Derived.Test.YthjbcpakpfdkaaaPStackx4
namespace Go.Proofs.Ythjbcpakpfdkaaa.PStack
open Go.RowKit Go.Proofs.YthjbcpakpfdkaaaW.PrintWords Go.Proofs.YthjbcpakpfdkaaaW.PrintLast Go.Proofs.YthjbcpakpfdkaaaW.PrintMore
attribute [local go_sem] str_leq op_leq op_gtr op_geq max2_int min2_int max_two min_two max_three min_three max_four min_four   -- for this text's walks alone
set_option linter.unusedVariables false
set_option linter.unusedSimpArgs false

/-! ### recensionlaw3_Cut: function 28 -/
def recensionlaw3_Cut.f (a0 : ByteArray) (a1 : Int) : Option (ByteArray) := if (a0.size : Int) > a1 then (if 0 ≤ a1 then (if a1 ≤ (a0.size : Int) then (some (a0.extract 0 (a1 : Int).toNat)) else (none)) else (none)) else (some a0)
set_option maxHeartbeats 8000000 in
set_option maxRecDepth 100000 in
theorem recensionlaw3_Cut.calls (a0 : ByteArray) (a1 : Int) (r : ByteArray) (w : World) (h : recensionlaw3_Cut.f a0 a1 = some r) :
  Calls Try.prog 28 #[.string a0, .int .i64 a1] w fun e w' => e = .returned (.string r) ∧ Drawn0 w w' := by
 have H : (if (a0.size : Int) > a1 then (if 0 ≤ a1 then (if a1 ≤ (a0.size : Int) then (some (a0.extract 0 (a1 : Int).toNat)) else (none)) else (none)) else (some a0)) = some r := h
 clear h
 by_cases c3 : (a0.size : Int) > a1
 ·rw [if_pos c3] at H
  have c3b0 : decide (a1 < (a0.size : Int)) = true := decide_eq_true c3
  clear c3
  by_cases c4 : 0 ≤ a1
  ·rw [if_pos c4] at H
   have c4b0 := eq_true c4
   have c4b1 : decide (0 ≤ a1) = true := decide_eq_true c4
   clear c4
   by_cases c5 : a1 ≤ (a0.size : Int)
   ·rw [if_pos c5] at H
    have c5b0 := eq_true c5
    have c5b1 : decide (a1 ≤ (a0.size : Int)) = true := decide_eq_true c5
    clear c5
    obtain rfl := Option.some.inj H
    go_enter Try.func28, Try.ntmps28
    go_wp2
    go_ret
    exact ⟨by first | rfl | (simp; done) | (simp [*]; done), by repeat (first | exact Drawn0.refl _ | apply Drawn0.step)⟩
   ·rw [if_neg c5] at H
    exact absurd H (by simp)
  ·rw [if_neg c4] at H
   exact absurd H (by simp)
 ·rw [if_neg c3] at H
  have c3b0 : decide (a1 < (a0.size : Int)) = false := decide_eq_false c3
  clear c3
  obtain rfl := Option.some.inj H
  go_enter Try.func28, Try.ntmps28
  go_wp2
  go_ret
  exact ⟨by first | rfl | (simp; done) | (simp [*]; done), by repeat (first | exact Drawn0.refl _ | apply Drawn0.step)⟩

/-! ### recensionlaw25_StackClears: function 6 -/
theorem str_one (W : World) (v : Int) : (convert 43 9 (.slice (some ⟨W.heap.size, 0, none⟩) 1 1)).run Try.prog (W.alloc (.cells #[.int .u8 v] 5)) = .ok (.string (strOfNums [v])) (W.alloc (.cells #[.int .u8 v] 5)) := by
 have h : Kd.R (Kd.int .u8) 5 (W.alloc (.cells #[.int .u8 v] 5)) 0 (fun _ => True) (.slice (some ⟨W.heap.size, 0, none⟩) 1 1) [v] := R_one (d := Kd.int .u8) (p := v) (cs := [.int .u8 v]) (okx := fun _ => False) (Nat.zero_le _) rfl (fun _ h => h.elim) trivial _ rfl
 exact Kd.C_string (P := Try.prog) (c := 1) Try.underlying43 Try.underlying5 Try.underlying9 (Kd.R_reads' h).2.2
theorem last_of {α : Type} (U : List α) (m : Nat) (h : U.length = m + 1) : ∃ V x, U = V ++ [x] ∧ V.length = m := by
 have hne : U ≠ [] := by intro e; subst e; simp at h
 refine ⟨U.dropLast, U.getLast hne, (List.dropLast_concat_getLast hne).symm, by rw [List.length_dropLast]; omega⟩
set_option maxHeartbeats 1000000 in
set_option maxRecDepth 100000 in
theorem clears_out (k : Nat) (n back : Int) (a : ByteArray) (w : World) (hb : BegunOK k) (h : n < 0 ∨ 4 < n ∨ back < 0 ∨ n < back) :
  Calls Try.prog 6 #[.int .i64 n, .int .i64 back, .string a] w fun e w' => e = .returned (.bool true) ∧ Below w.heap.size w w' := by
 have H := Aside0.mk hb
 have HQ := Aside0.mk h
 clear hb h
 by_cases h1 : n < 0
 ·go_enter Try.func6, Try.ntmps6
  go_wp2_with (go_at_call 9; refine (begun_ok H.out _).mono ?_; rintro e w1 ⟨rfl, hb1⟩; have B1 := Aside0.mk hb1; clear hb1)
  go_ret
  exact ⟨rfl, B1.out⟩
 ·by_cases h2 : 4 < n
  ·go_enter Try.func6, Try.ntmps6
   go_wp2_with (go_at_call 9; refine (begun_ok H.out _).mono ?_; rintro e w1 ⟨rfl, hb1⟩; have B1 := Aside0.mk hb1; clear hb1)
   go_ret
   exact ⟨rfl, B1.out⟩
  ·by_cases h3 : back < 0
   ·go_enter Try.func6, Try.ntmps6
    go_wp2_with (go_at_call 9; refine (begun_ok H.out _).mono ?_; rintro e w1 ⟨rfl, hb1⟩; have B1 := Aside0.mk hb1; clear hb1)
    go_ret
    exact ⟨rfl, B1.out⟩
   ·have h4 : n < back := by have := HQ.out; omega
    go_enter Try.func6, Try.ntmps6
    go_wp2_with (go_at_call 9; refine (begun_ok H.out _).mono ?_; rintro e w1 ⟨rfl, hb1⟩; have B1 := Aside0.mk hb1; clear hb1)
    go_ret
    exact ⟨rfl, B1.out⟩
set_option maxHeartbeats 1000000 in
set_option maxRecDepth 100000 in
theorem clears_in (k : Nat) (n back : Int) (a s : ByteArray) (w : World) (hb : BegunOK k) (n0 : 0 ≤ n) (n4 : n ≤ 4) (b0 : 0 ≤ back) (bn : back ≤ n) (hs : recensionlaw3_Cut.f a 20 = some s) (hm : ∀ i : Int, 0 ≤ i → i < 4 → stack_May.f k [chg ⟨#[97]⟩ ⟨#[120]⟩ (strOfNums [97 + i])] = some true) (hm2 : stack_May.f k [chg ⟨#[98]⟩ ⟨#[]⟩ s] = some true) :
  Calls Try.prog 6 #[.int .i64 n, .int .i64 back, .string a] w fun e w' => e = .returned (.bool true) ∧ Below w.heap.size w w' := by
 have H := Aside0.mk hb
 have HC := Aside0.mk hs
 have HM := Aside0.mk hm
 have HM2 := Aside0.mk hm2
 clear hb hs hm hm2
 go_enter Try.func6, Try.ntmps6
 go_wp2_with fail
 refine (begun_ok H.out _).mono ?_
 rintro e w1 ⟨rfl, hb1⟩
 have B1 := Aside0.mk hb1
 clear hb1
 go_wp2_with fail
 refine (recensionlaw3_Cut.calls a 20 s _ HC.out).mono ?_
 rintro e w2 ⟨rfl, ⟨n2, rfl⟩⟩
 have B2 := Aside0.mk (pw_below_drewN B1.out n2)
 clear B1
 go_wp2_with fail
 refine (st_new w.heap.size _ B2.out.size).mono ?_
 rintro e w3 ⟨rfl, hs3, hb3⟩
 have S3 := Aside0.mk hs3
 have B3 := Aside0.mk (B2.out.trans (hb3.mono B2.out.size))
 obtain ⟨g, hg⟩ : ∃ g, (w1.drewN n2).heap.size = g := ⟨_, rfl⟩
 rw [hg] at S3 ⊢
 clear hs3 hb3 hg B2
 go_wp2_with fail
 go_loopw [9] (fun i wr => ∃ (x : Int) (U : List (List S56)) (P : Nat → Prop), i = .int .i64 x ∧ 0 ≤ x ∧ x ≤ n ∧ Aside0 (U.length = x.toNat) ∧ Aside0 (∀ y ∈ U, y.length ≤ 1) ∧ Aside0 (St 63 35 P w.heap.size wr g U []) ∧ Aside0 (Below w.heap.size w wr)) (fun i _ => (n - intOf i).toNat)
 case atStart => exact ⟨0, [], _, rfl, Int.le_refl _, n0, ⟨rfl⟩, ⟨by simp⟩, S3, B3⟩
 case round =>
  clear S3 B3
  obtain ⟨x, U, P, rfl, hx0, hxn, HL, HY, HS, HB⟩ := hrel
  by_cases hlt : x < n
  ·have hcv := fun (W : World) (v : Int) => str_one W v
   have e1 : IntKind.i64.wrap (97 + x) = 97 + x := IntWalk.i64_in _ (by omega)
   have e2 : IntKind.i64.wrap (x + 1) = x + 1 := IntWalk.i64_in _ (by omega)
   go_wp2_with fail
   refine (stepc _ _ _ _).mono ?_
   rintro e w4 ⟨A4, c4, rfl, ho, hb⟩
   have S4 := Aside0.mk ((HS.out.alloc _).below hb)
   have B4 := Aside0.mk ((HB.out.alloc HB.out.size _).trans (hb.mono (HB.out.alloc HB.out.size _).size))
   have X4 := Aside0.mk ho
   clear ho hb HS HB
   go_wp2_with fail
   refine (push_yes k _ w.heap.size g U [] A4 c4 _ w4 S4.out B4.out.size (Kd.R_reads' X4.out).2.2 (Kd.R_reads' X4.out).2.1 (HM.out x hx0 (by omega)) (by simp) (by have := HL.out; omega)).mono ?_
   rintro e w5 ⟨rfl, hs, hb, _⟩
   rw [show U.length + 1 - 4 = 0 by have := HL.out; omega, List.drop_zero] at hs
   have S5 := Aside0.mk hs
   have B5 := Aside0.mk (B4.out.trans hb)
   clear hs hb S4 B4 X4
   go_wp2_with fail
   go_roundw
   case rel => exact ⟨x + 1, _, _, rfl, by omega, by omega, ⟨by have := HL.out; simp; omega⟩, ⟨fun y hy => by rcases List.mem_append.1 hy with h | h; exact HY.out y h; rw [List.mem_singleton.1 h]; exact Nat.le_refl _⟩, S5, B5⟩
   case measure => simp [intOf]; omega
  ·have hxe : x = n := by omega
   have HL2 := Aside0.mk (show U.length = n.toNat from by rw [HL.out, hxe])
   go_wp2_with fail
   go_loopw [10] (fun i wr => ∃ (x : Int) (U R : List (List S56)) (P : Nat → Prop), i = .int .i64 x ∧ 0 ≤ x ∧ x ≤ back ∧ Aside0 (U.length + x.toNat = n.toNat) ∧ Aside0 (R.length = x.toNat) ∧ Aside0 (∀ y ∈ U, y.length ≤ 1) ∧ Aside0 (St 63 35 P w.heap.size wr g U R) ∧ Aside0 (Below w.heap.size w wr)) (fun i _ => (back - intOf i).toNat)
   case atStart => exact ⟨0, U, [], P, rfl, Int.le_refl _, b0, ⟨by have := HL2.out; simpa using this⟩, ⟨rfl⟩, HY, HS, HB⟩
   case round =>
    clear HL HY HS HB HL2 hx0 hxn hlt hxe
    obtain ⟨x, U, R, P, rfl, hx0, hxn, HL, HR, HY, HS, HB⟩ := hrel
    by_cases hlt : x < back
    ·obtain ⟨V, y, hU, hV⟩ := last_of U (n.toNat - x.toNat - 1) (by have := HL.out; omega)
     subst hU
     have HV := Aside0.mk hV
     have HY1 := Aside0.mk (HY.out y (by simp))
     have HY2 := Aside0.mk (fun z hz => HY.out z (List.mem_append.2 (.inl hz)))
     have e2 : IntKind.i64.wrap (x + 1) = x + 1 := IntWalk.i64_in _ (by omega)
     have hr4 : R.length ≤ 4 := by have := HR.out; omega
     have hu4 : V.length ≤ 4 := by omega
     clear hV
     go_wp2_with fail
     refine (undo_yes _ w.heap.size g V R y _ HS.out HB.out.size (by omega) (by omega) (by have := HY1.out; omega)).mono ?_
     rintro e w6 ⟨v6, rfl, _, hs, hb, _⟩
     have S6 := Aside0.mk hs
     have B6 := Aside0.mk (HB.out.trans hb)
     clear hs hb HS HB hr4 hu4
     go_wp2_with fail
     go_roundw
     case rel => exact ⟨x + 1, V, y :: R, _, rfl, by omega, by omega, ⟨by have := HV.out; omega⟩, ⟨by have := HR.out; simp; omega⟩, HY2, S6, B6⟩
     case measure => simp [intOf]; omega
    ·have hxe : x = back := by omega
     subst hxe
     obtain ⟨q, hq⟩ : ∃ q : Int, n - x = q := ⟨_, rfl⟩
     have HLQ := Aside0.mk (show (U.length : Int) = q from by have := HL.out; omega)
     have q0 : 0 ≤ q := by omega
     have q4 : q ≤ 4 := by omega
     have e3 : IntKind.i64.wrap (n - x) = q := by rw [hq]; exact IntWalk.i64_in _ (by omega)
     have e5 : IntKind.i64.wrap (q + 1) = q + 1 := IntWalk.i64_in _ (by omega)
     have hu4 : U.length ≤ 4 := by have := HLQ.out; omega
     have HQ := Aside0.mk hq
     clear hlt HL HR
     go_wp2_with fail
     refine (stepc _ _ _ _).mono ?_
     rintro e w4 ⟨A4, c4, rfl, ho, hb⟩
     have S4 := Aside0.mk (HS.out.below hb)
     have B4 := Aside0.mk (HB.out.trans (hb.mono HB.out.size))
     have X4 := Aside0.mk ho
     clear ho hb HS HB
     go_wp2_with fail
     refine (push_yes k _ w.heap.size g U R A4 c4 _ w4 S4.out B4.out.size (Kd.R_reads' X4.out).2.2 (Kd.R_reads' X4.out).2.1 HM2.out (by simp) (by omega)).mono ?_
     rintro e w5 ⟨rfl, hs, hb, _⟩
     obtain ⟨t1, ht1⟩ : ∃ t1, chg ⟨#[98]⟩ ⟨#[]⟩ s = t1 := ⟨_, rfl⟩
     rw [ht1, List.drop_append_of_le_length (by omega)] at hs
     obtain ⟨V, hV⟩ : ∃ V, U.drop (U.length + 1 - 4) = V := ⟨_, rfl⟩
     have hVl : V.length = U.length - (U.length + 1 - 4) := by rw [← hV, List.length_drop]
     rw [hV] at hs
     have S5 := Aside0.mk hs
     have B5 := Aside0.mk (B4.out.trans hb)
     have T1 := Aside0.mk ht1
     clear hs hb ht1 hV S4 B4 X4
     go_wp2_with fail
     refine (redo_no _ _ g _ w5 S5.out).mono ?_
     rintro e w6 ⟨rfl, rfl⟩
     go_wp2_with fail
     refine (len_yes _ _ g _ _ _ S5.out).mono ?_
     rintro e w7 ⟨rfl, ⟨n7, hw⟩⟩
     have S7 := Aside0.mk (show St 63 35 _ w.heap.size w7 g (V ++ [[t1]]) [] from by rw [hw]; exact S5.out.drewN n7)
     have B7 := Aside0.mk (show Below w.heap.size w w7 from by rw [hw]; exact pw_below_drewN B5.out n7)
     obtain ⟨m, hm⟩ : ∃ m, (V ++ [[t1]]).length = m := ⟨_, rfl⟩
     have hm2 : m = V.length + 1 := by rw [← hm]; simp
     rw [hm]
     have hm3 : (m : Int) = if q < 4 then q + 1 else 4 := by have := HLQ.out; split <;> omega
     have HVL := Aside0.mk (show V.length ≤ 4 by omega)
     clear hw S5 B5 hm hm2 hVl
     obtain ⟨mz, hmz⟩ : ∃ mz : Int, (m : Int) = mz := ⟨_, rfl⟩
     rw [hmz] at hm3 ⊢
     have HM3 := Aside0.mk hm3
     clear hmz hm3
     go_wp2_with fail
     refine (undo_yes _ w.heap.size g V [] [t1] w7 S7.out B7.out.size (by have := HVL.out; omega) (by simp) (by simp)).mono ?_
     rintro e w8 ⟨v8, rfl, ho, _, hb, _⟩
     obtain ⟨A8, c8, rfl⟩ := Kd.R_slice ho
     have Y8 : Kd.R k56 56 w8 w7.heap.size (fun _ => True) (.slice A8 1 c8) [t1] := ho
     have B8 := Aside0.mk (B7.out.trans hb)
     obtain ⟨az, rfl, _, _, _, _, pz4⟩ := C_one56 (Kd.R_reads' Y8).2.2 rfl
     rw [show t1.f4 = s from by rw [← T1.out]; rfl] at pz4
     clear ho hb Y8 S7 B7
     by_cases hq4 : q < 4
     ·obtain rfl : mz = q + 1 := by rw [HM3.out, if_pos hq4]
      have z1 : (q + 1 < 4) = (q < 3) := by simp; omega
      by_cases hq3 : q < 3
      ·go_wp2_with fail
       go_ret
       exact ⟨rfl, B8.out⟩
      ·obtain rfl : q = 3 := by omega
       go_wp2_with fail
       go_ret
       exact ⟨rfl, B8.out⟩
     ·obtain rfl : mz = 4 := by rw [HM3.out, if_neg hq4]
      obtain rfl : q = 4 := by omega
      go_wp2_with fail
      go_ret
      exact ⟨rfl, B8.out⟩
def ClearsOK (k : Nat) (n back : Int) (a : ByteArray) : Prop := BegunOK k ∧ ((n < 0 ∨ 4 < n ∨ back < 0 ∨ n < back) ∨ (0 ≤ n ∧ n ≤ 4 ∧ 0 ≤ back ∧ back ≤ n ∧ ∃ s, recensionlaw3_Cut.f a 20 = some s ∧ (∀ i : Int, 0 ≤ i → i < 4 → stack_May.f k [chg ⟨#[97]⟩ ⟨#[120]⟩ (strOfNums [97 + i])] = some true) ∧ stack_May.f k [chg ⟨#[98]⟩ ⟨#[]⟩ s] = some true))
noncomputable def recensionlaw25_StackClears.f (k : Nat) (a0 a1 : Int) (a2 : ByteArray) : Option Bool := @ite _ (ClearsOK k a0 a1 a2) (Classical.propDecidable _) (some true) none
theorem recensionlaw25_StackClears.calls (k : Nat) (a0 a1 : Int) (a2 : ByteArray) (r : Bool) (w : World) (hrt : Aside0 (r = true)) (h : recensionlaw25_StackClears.f k a0 a1 a2 = some r) :
  Calls Try.prog 6 #[.int .i64 a0, .int .i64 a1, .string a2] w fun e w' => e = .returned (.bool r) ∧ Below w.heap.size w w' := by
 obtain rfl := hrt.out
 by_cases hc : ClearsOK k a0 a1 a2
 ·obtain ⟨h1, h2 | ⟨h2, h3, h4, h5, s, h6, h7, h8⟩⟩ := hc
  ·exact clears_out k a0 a1 a2 w h1 h2
  ·exact clears_in k a0 a1 a2 s w h1 h2 h3 h4 h5 h6 h7 h8
 ·unfold recensionlaw25_StackClears.f at h
  rw [if_neg hc] at h
  cases h

/-- THE ONE PURE STATEMENT of recensionlaw25_StackClears: yours. -/
def recensionlaw25_StackClears.Pure : Prop := ∀ (a0 : Int) (a1 : Int) (a2 : ByteArray), ((Lit.int .i64 a0).wf = true) → ((Lit.int .i64 a1).wf = true) → (a2.size ≤ 140737488351232) → ∃ k, recensionlaw25_StackClears.f k a0 a1 a2 = some true
theorem recensionlaw25_StackClears.walk (P : recensionlaw25_StackClears.Pure) (a0 : Int) (a1 : Int) (a2 : ByteArray) (w : World) (G0 : (Lit.int .i64 a0).wf = true) (G1 : (Lit.int .i64 a1).wf = true) (G2 : a2.size ≤ 140737488351232) :
  Calls Try.prog 6 #[.int .i64 a0, .int .i64 a1, .string a2] w fun e w' => e = .returned (.bool true) ∧ Below w.heap.size w w' := by
 obtain ⟨k, h⟩ := P a0 a1 a2 G0 G1 G2
 refine (recensionlaw25_StackClears.calls k a0 a1 a2 true w  ⟨rfl⟩ h).mono ?_
 rintro e w' ⟨rfl, hd⟩
 exact ⟨rfl, hd⟩
end Go.Proofs.Ythjbcpakpfdkaaa.PStack
