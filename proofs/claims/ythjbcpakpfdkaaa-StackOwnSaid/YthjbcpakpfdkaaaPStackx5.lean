-- Written by myprint.py (the prover's own turn of the printer); not trusted: Lean checks it.
import Derived.Test.YthjbcpakpfdkaaaPStackx0
import Derived.Test.YthjbcpakpfdkaaaPStackx2
import Derived.Test.YthjbcpakpfdkaaaPStackx4
namespace Go.Proofs.Ythjbcpakpfdkaaa.PStack
open Go.RowKit Go.Proofs.YthjbcpakpfdkaaaW.PrintWords Go.Proofs.YthjbcpakpfdkaaaW.PrintLast Go.Proofs.YthjbcpakpfdkaaaW.PrintMore
attribute [local go_sem] str_leq op_leq op_gtr op_geq max2_int min2_int max_two min_two max_three min_three max_four min_four   -- for this text's walks alone
set_option linter.unusedVariables false
set_option linter.unusedSimpArgs false

/-! ### stack_Stack_Copy: function 29: its contract stands in begun's text -/

/-! ### recensionlaw25_StackNone: function 8 -/
set_option maxHeartbeats 1000000 in
set_option maxRecDepth 100000 in
theorem none_walk (k : Nat) (w : World) (h : BegunOK k) :
  Calls Try.prog 8 #[] w fun e w' => e = .returned (.bool true) ∧ Below w.heap.size w w' := by
 have H := Aside0.mk h
 clear h
 go_enter Try.func8, Try.ntmps8
 go_wp2_with fail
 refine (undo_nil _).mono ?_
 rintro e w1 ⟨rfl, rfl⟩
 go_wp2_with fail
 refine (redo_nil _).mono ?_
 rintro e w1 ⟨rfl, rfl⟩
 go_wp2_with fail
 refine (len_nil _).mono ?_
 rintro e w1 ⟨rfl, rfl⟩
 go_wp2_with fail
 refine (begun_ok H.out _).mono ?_
 rintro e w1 ⟨rfl, hb1⟩
 have B1 := Aside0.mk hb1
 clear hb1
 go_wp2_with fail
 refine (stepc _ _ _ _).mono ?_
 rintro e w2 ⟨A, c, rfl, ho, hb⟩
 have B2 := Aside0.mk (B1.out.trans (hb.mono B1.out.size))
 clear ho hb B1
 go_wp2_with fail
 refine (push_nil A c 1 _).mono ?_
 rintro e w3 ⟨rfl, rfl⟩
 go_wp2_with fail
 refine (enc_nil _).mono ?_
 rintro e w3 ⟨rfl, rfl⟩
 go_wp2_with fail
 refine (copy_nil _).mono ?_
 rintro e w3 ⟨rfl, rfl⟩
 go_wp2_with fail
 go_ret
 exact ⟨rfl, B2.out⟩
noncomputable def recensionlaw25_StackNone.f (k : Nat) : Option Bool := @ite _ (BegunOK k) (Classical.propDecidable _) (some true) none
theorem recensionlaw25_StackNone.calls (k : Nat) (r : Bool) (w : World) (hrt : Aside0 (r = true)) (h : recensionlaw25_StackNone.f k = some r) :
  Calls Try.prog 8 #[] w fun e w' => e = .returned (.bool r) ∧ Below w.heap.size w w' := by
 obtain rfl := hrt.out
 by_cases hc : BegunOK k
 ·exact none_walk k w hc
 ·unfold recensionlaw25_StackNone.f at h
  rw [if_neg hc] at h
  cases h

/-- THE ONE PURE STATEMENT of recensionlaw25_StackNone: yours. -/
def recensionlaw25_StackNone.Pure : Prop := ∃ k, recensionlaw25_StackNone.f k  = some true
theorem recensionlaw25_StackNone.walk (P : recensionlaw25_StackNone.Pure)  (w : World)  :
  Calls Try.prog 8 #[] w fun e w' => e = .returned (.bool true) ∧ Below w.heap.size w w' := by
 obtain ⟨k, h⟩ := P  
 refine (recensionlaw25_StackNone.calls k  true w  ⟨rfl⟩ h).mono ?_
 rintro e w' ⟨rfl, hd⟩
 exact ⟨rfl, hd⟩
/-! ### recensionlaw3_Cut: function 28 -/
def recensionlaw3_Cut.f (a0 : ByteArray) (a1 : Int) : Option (ByteArray) := if (a0.size : Int) > a1 then (if 0 ≤ a1 then (if a1 ≤ (a0.size : Int) then (some (a0.extract 0 (a1 : Int).toNat)) else (none)) else (none)) else (some a0)
set_option maxHeartbeats 8000000 in
set_option maxRecDepth 100000 in
theorem recensionlaw3_Cut.calls (a0 : ByteArray) (a1 : Int) (r : ByteArray) (w : World) (h : recensionlaw3_Cut.f a0 a1 = some r) :
  Calls Try.prog 28 #[.string a0, .int .i64 a1] w fun e w' => e = .returned (.string r) ∧ Drawn0 w w' := by
 have H : (if (a0.size : Int) > a1 then (if 0 ≤ a1 then (if a1 ≤ (a0.size : Int) then (some (a0.extract 0 (a1 : Int).toNat)) else (none)) else (none)) else (some a0)) = some r := h
 clear h
 by_cases c3 : (a0.size : Int) > a1
 ·rw [if_pos c3] at H
  have c3b0 : decide (a1 < (a0.size : Int)) = true := decide_eq_true c3
  clear c3
  by_cases c4 : 0 ≤ a1
  ·rw [if_pos c4] at H
   have c4b0 := eq_true c4
   have c4b1 : decide (0 ≤ a1) = true := decide_eq_true c4
   clear c4
   by_cases c5 : a1 ≤ (a0.size : Int)
   ·rw [if_pos c5] at H
    have c5b0 := eq_true c5
    have c5b1 : decide (a1 ≤ (a0.size : Int)) = true := decide_eq_true c5
    clear c5
    obtain rfl := Option.some.inj H
    go_enter Try.func28, Try.ntmps28
    go_wp2
    go_ret
    exact ⟨by first | rfl | (simp; done) | (simp [*]; done), by repeat (first | exact Drawn0.refl _ | apply Drawn0.step)⟩
   ·rw [if_neg c5] at H
    exact absurd H (by simp)
  ·rw [if_neg c4] at H
   exact absurd H (by simp)
 ·rw [if_neg c3] at H
  have c3b0 : decide (a1 < (a0.size : Int)) = false := decide_eq_false c3
  clear c3
  obtain rfl := Option.some.inj H
  go_enter Try.func28, Try.ntmps28
  go_wp2
  go_ret
  exact ⟨by first | rfl | (simp; done) | (simp [*]; done), by repeat (first | exact Drawn0.refl _ | apply Drawn0.step)⟩

/-! ### recensionlaw25_StackOwn: function 7 -/
theorem own56 {W : World} {base : Nat} {ok : Nat → Prop} {A : Option Addr} {c : Nat} {t : S56} (h : Kd.R k56 56 W base ok (.slice A 1 c) [t]) : ∃ b, A = some ⟨b, 0, none⟩ ∧ base ≤ b ∧ b < W.heap.size ∧ W.cell? ⟨b, 3, none⟩ = some (.string t.f3) ∧ W.cell? ⟨b, 4, none⟩ = some (.string t.f4) ∧ W.frozen? ⟨b, 3, none⟩ = false ∧ W.frozen? ⟨b, 4, none⟩ = false := by
 obtain ⟨b, cap, he, hb, hl, cells, hc⟩ := Kd.R_form h (by simp)
 injection he with hA _ _
 subst hA
 obtain ⟨ad, e, _, _, _, q3, q4⟩ := C_one56 (Kd.R_reads' h).2.2 rfl
 injection e with e
 subst e
 exact ⟨b, rfl, hb, hl, q3, q4, blk_frozen hc 3, blk_frozen hc 4⟩
theorem is56.kept {W W2 : World} {k : Nat} {S : Nat → Prop} (h : is56 W k) (hk : Kept W W2 S) (hne : ¬ S k) : is56 W2 k := by
 obtain ⟨c, hc⟩ := h
 exact ⟨c, blk_kept hc hk hne⟩
theorem is56.lt {W : World} {k : Nat} (h : is56 W k) : k < W.heap.size := by
 obtain ⟨c, hc⟩ := h
 exact blk_lt hc
set_option maxHeartbeats 1000000 in
set_option maxRecDepth 100000 in
theorem own_walk (k : Nat) (a b so st : ByteArray) (w : World) (hb : BegunOK k) (hs : recensionlaw3_Cut.f a 20 = some so) (ht : recensionlaw3_Cut.f b 20 = some st) (hm : stack_May.f k [chg ⟨#[97]⟩ so st] = some true) (hm2 : stack_May.f k [chg ⟨#[98]⟩ ⟨#[]⟩ ⟨#[116]⟩] = some true) :
  Calls Try.prog 7 #[.string a, .string b] w fun e w' => e = .returned (.bool true) ∧ Below w.heap.size w w' := by
 have H := Aside0.mk hb
 have HC := Aside0.mk hs
 have HT := Aside0.mk ht
 have HM := Aside0.mk hm
 have HM2 := Aside0.mk hm2
 clear hb hs ht hm hm2
 go_enter Try.func7, Try.ntmps7
 go_wp2_with fail
 refine (begun_ok H.out _).mono ?_
 rintro e w1 ⟨rfl, hb1⟩
 have B1 := Aside0.mk hb1
 clear hb1
 go_wp2_with fail
 refine (recensionlaw3_Cut.calls a 20 so _ HC.out).mono ?_
 rintro e w2 ⟨rfl, ⟨n2, rfl⟩⟩
 go_wp2_with fail
 refine (recensionlaw3_Cut.calls b 20 st _ HT.out).mono ?_
 rintro e w2 ⟨rfl, ⟨n3, rfl⟩⟩
 have B2 := Aside0.mk (pw_below_drewN (pw_below_drewN B1.out n2) n3)
 obtain ⟨W2, hW2⟩ : ∃ W2, (w1.drewN n2).drewN n3 = W2 := ⟨_, rfl⟩
 rw [hW2] at B2 ⊢
 clear B1 hW2
 go_wp2_with fail
 refine (st_new w.heap.size _ B2.out.size).mono ?_
 rintro e w3 ⟨rfl, hs3, hb3⟩
 have S3 := Aside0.mk hs3.bound
 have B3 := Aside0.mk (B2.out.trans (hb3.mono B2.out.size))
 obtain ⟨g, hg⟩ : ∃ g, W2.heap.size = g := ⟨_, rfl⟩
 have s3 := B3.out.size
 rw [hg] at S3 ⊢
 clear hs3 hb3 hg B2
 go_wp2_with fail
 refine (stepc _ _ _ _).mono ?_
 rintro e w4 ⟨Ax, cx, rfl, ho, hb⟩
 have S4 := Aside0.mk (S3.out.below hb)
 have B4 := Aside0.mk (B3.out.trans (hb.mono s3))
 have X4 := Aside0.mk ho
 have s4 := hb.size
 clear ho hb S3 B3
 go_wp2_with fail
 refine (push_yes k _ w.heap.size g [] [] Ax cx _ w4 S4.out B4.out.size (Kd.R_reads' X4.out).2.2 (Kd.R_reads' X4.out).2.1 HM.out (by simp) (by simp)).mono ?_
 rintro e w5 ⟨rfl, hs, hb, hk⟩
 obtain ⟨t1, ht1⟩ : ∃ t1, chg ⟨#[97]⟩ so st = t1 := ⟨_, rfl⟩
 have S5 := Aside0.mk (show St 63 35 _ w.heap.size w5 g [[t1]] [] from by rw [ht1] at hs; exact hs)
 have B5 := Aside0.mk (B4.out.trans hb)
 have s5 := hk.1
 have X5 := R_frame X4.out hk hk.1
 have T1 := Aside0.mk ht1
 obtain ⟨bx, rfl, bx0, bx1, px3, px4, ox3, ox4⟩ := own56 (Kd.R_mono (ok' := fun _ => True) X5 (fun _ _ => trivial))
 have bx4 : bx < w4.heap.size := by
  obtain ⟨bz, hz, _, bz1, _⟩ := own56 X4.out
  injection hz with hz
  injection hz with hz
  omega
 clear hs hb hk ht1 X5 X4 S4 B4 px4 ox4
 go_wp2_with fail
 have S6 := Aside0.mk (S5.out.kept (S := fun k => k = bx) (Kept.setCell (p := ⟨bx, 3, none⟩) (Kept.refl w5 (fun k => k = bx)) (.inl rfl) (.string ⟨#[115, 112, 111, 105, 108, 116]⟩)) (fun k hk he => by
  have he2 : k = bx := he
  rcases hk with hk | hk
  ·have := hk.2; omega
  ·omega)) 
 have B6 := Aside0.mk (B5.out.setCell (p := ⟨bx, 3, none⟩) (Nat.le_trans s3 bx0) (.string ⟨#[115, 112, 111, 105, 108, 116]⟩))
 obtain ⟨w6, hw6⟩ : ∃ w6, w5.setCell ⟨bx, 3, none⟩ (.string ⟨#[115, 112, 111, 105, 108, 116]⟩) = w6 := ⟨_, rfl⟩
 have s6 : w5.heap.size = w6.heap.size := by rw [← hw6, sz_set]
 rw [hw6] at S6 B6 ⊢
 clear hw6 S5 B5 px3 ox3
 refine (copy_yes _ w.heap.size g [[t1]] [] w6 S6.out B6.out.size (by simp) (by simp)).mono ?_
 rintro e w7 ⟨g2, rfl, hs, hb⟩
 have S7 := Aside0.mk (S6.out.bound.below hb)
 have C7 := Aside0.mk hs.bound
 have B7 := Aside0.mk (B6.out.trans (hb.mono B6.out.size))
 have s7 := hb.size
 have sw7 := B7.out.size
 have I7 : ∀ k, is56 w6 k → is56 w7 k := fun k hk => hk.below hb
 clear hs hb S6 B6
 go_wp2_with fail
 refine (undo_yes _ w.heap.size g [] [] [t1] w7 S7.out B7.out.size (by simp) (by simp) (by simp)).mono ?_
 rintro e w8 ⟨v8, rfl, ho, hs, hb, hk⟩
 obtain ⟨A8, c8, rfl⟩ := Kd.R_slice ho
 have Y8 := Aside0.mk (show Kd.R k56 56 w8 w7.heap.size (fun _ => True) (.slice A8 1 c8) [t1] from ho)
 have S8 := Aside0.mk hs
 have C8 := Aside0.mk (C7.out.kept hk (fun k hc hn => by
  rcases hc.1 with h | h
  ·have := hn.1.2; omega
  ·exact hn.2 (I7 k h.2.1)))
 have B8 := Aside0.mk (B7.out.trans hb)
 have s8 := hk.1
 have I8 : ∀ k, is56 w6 k → is56 w8 k := fun k h => (I7 k h).kept hk (fun hn => hn.2 (I7 k h))
 obtain ⟨bz, rfl, by0, by1, py3, py4, oy3, oy4⟩ := own56 Y8.out
 clear ho hs hb hk S7 C7 B7 Y8 py3 oy3
 go_wp2_with fail
 have S9 := Aside0.mk (S8.out.kept (S := fun k => k = bz) (Kept.setCell (p := ⟨bz, 4, none⟩) (Kept.refl w8 (fun k => k = bz)) (.inl rfl) (.string ⟨#[115, 112, 111, 105, 108, 116]⟩)) (fun k hk he => by
  have he2 : k = bz := he
  rcases hk with hk | hk
  ·have := hk.2; omega
  ·exact hk.2 (by rw [he2]; rfl)))
 have C9 := Aside0.mk (C8.out.kept (S := fun k => k = bz) (Kept.setCell (p := ⟨bz, 4, none⟩) (Kept.refl w8 (fun k => k = bz)) (.inl rfl) (.string ⟨#[115, 112, 111, 105, 108, 116]⟩)) (fun k hk he => by
  have he2 : k = bz := he
  have := hk.2
  omega))
 have I9 : ∀ k, is56 w6 k → is56 (w8.setCell ⟨bz, 4, none⟩ (.string ⟨#[115, 112, 111, 105, 108, 116]⟩)) k := fun k h => (I8 k h).kept (S := fun k => k = bz) (Kept.setCell (p := ⟨bz, 4, none⟩) (Kept.refl w8 (fun k => k = bz)) (.inl rfl) _) (fun he => by have he2 : k = bz := he; have := h.lt; omega)
 have B9 := Aside0.mk (B8.out.setCell (p := ⟨bz, 4, none⟩) (by show w.heap.size ≤ bz; omega) (.string ⟨#[115, 112, 111, 105, 108, 116]⟩))
 obtain ⟨w9, hw9⟩ : ∃ w9, w8.setCell ⟨bz, 4, none⟩ (.string ⟨#[115, 112, 111, 105, 108, 116]⟩) = w9 := ⟨_, rfl⟩
 have s9 : w8.heap.size = w9.heap.size := by rw [← hw9, sz_set]
 rw [hw9] at S9 C9 I9 B9 ⊢
 clear hw9 S8 C8 B8 py4 oy4 I7 I8
 refine (redo_yes _ w.heap.size g [] [] [t1] w9 S9.out B9.out.size (by simp) (by simp) (by simp)).mono ?_
 rintro e w10 ⟨v10, rfl, ho, hs, hb, hk⟩
 obtain ⟨A10, c10, rfl⟩ := Kd.R_slice ho
 have Z10 := Aside0.mk (show Kd.R k56 56 w10 w9.heap.size (fun _ => True) (.slice A10 1 c10) [t1] from ho)
 have S10 := Aside0.mk hs
 have C10 := Aside0.mk (C9.out.kept hk (fun k hc hn => by
  rcases hc.1 with h | h
  ·rcases hn.1 with h2 | h2
   ·have := h2.2; omega
   ·have := hc.2; have := h2.1; omega
  ·exact hn.2 (I9 k h.2.1)))
 have B10 := Aside0.mk (B9.out.trans hb)
 have s10 := hk.1
 have I10 : ∀ k, is56 w6 k → is56 w10 k := fun k h => (I9 k h).kept hk (fun hn => hn.2 (I9 k h))
 clear ho hs hb hk S9 C9 B9 I9
 go_wp2_with fail
 refine (stepc _ _ _ _).mono ?_
 rintro e w11 ⟨A11, c11, rfl, ho, hb⟩
 have S11 := Aside0.mk (S10.out.below hb)
 have C11 := Aside0.mk (C10.out.below hb)
 have Z11 := Aside0.mk (Kd.R_below Z10.out hb)
 have B11 := Aside0.mk (B10.out.trans (hb.mono B10.out.size))
 have X11 := Aside0.mk ho
 have s11 := hb.size
 have I11 : ∀ k, is56 w6 k → is56 w11 k := fun k h => (I10 k h).below hb
 clear ho hb S10 C10 Z10 B10 I10
 go_wp2_with fail
 refine (push_yes k _ w.heap.size g2 [[t1]] [] A11 c11 _ w11 C11.out B11.out.size (Kd.R_reads' X11.out).2.2 (Kd.R_reads' X11.out).2.1 HM2.out (by simp) (by simp)).mono ?_
 rintro e w12 ⟨rfl, hs, hb, hk⟩
 have C12 := Aside0.mk (show St 63 35 _ w.heap.size w12 g2 [[t1], [chg ⟨#[98]⟩ ⟨#[]⟩ ⟨#[116]⟩]] [] from hs)
 have S12 := Aside0.mk (S11.out.kept hk (fun k hc hn => by
  rcases hn.1.1 with h | h
  ·rcases hc with h2 | h2
   ·rcases h2 with h2 | h2
    ·have := h2.2; omega
    ·have := hn.1.2; have := h2.1; omega
   ·have := hn.1.2; have := h2.1; omega
  ·exact hn.2 (I11 k h.2.1)))
 have Z12 := Aside0.mk (R_frame Z11.out hk hk.1)
 have B12 := Aside0.mk (B11.out.trans hb)
 clear hs hb hk S11 C11 Z11 B11 I11 X11
 go_wp2_with fail
 refine (len_yes _ _ g _ _ w12 S12.out).mono ?_
 rintro e w13 ⟨rfl, ⟨n13, hw⟩⟩
 have C13 := Aside0.mk (show St 63 35 _ w.heap.size w13 g2 [[t1], [chg ⟨#[98]⟩ ⟨#[]⟩ ⟨#[116]⟩]] [] from by rw [hw]; exact C12.out.drewN n13)
 have Z13 := Aside0.mk (show Kd.R k56 56 w13 w9.heap.size (fun _ => True) (.slice A10 1 c10) [t1] from by rw [hw]; exact Kd.R_drewN Z12.out n13)
 have B13 := Aside0.mk (show Below w.heap.size w w13 from by rw [hw]; exact pw_below_drewN B12.out n13)
 clear hw Z12 S12 C12 B12
 go_wp2_with fail
 refine (len_yes _ _ g2 _ _ _ C13.out).mono ?_
 rintro e w14 ⟨rfl, ⟨n14, hw⟩⟩
 have Z14 : Kd.R k56 56 w14 w9.heap.size (fun _ => True) (.slice A10 1 c10) [t1] := by rw [hw]; exact Kd.R_drewN Z13.out n14
 have B14 := Aside0.mk (show Below w.heap.size w w14 from by rw [hw]; exact pw_below_drewN B13.out n14)
 clear hw Z13 C13 B13
 obtain ⟨az, rfl, _, _, _, pz3, pz4⟩ := C_one56 (Kd.R_reads' Z14).2.2 rfl
 have e3 : t1.f3 = so := by rw [← T1.out]; rfl
 have e4 : t1.f4 = st := by rw [← T1.out]; rfl
 rw [e3] at pz3
 rw [e4] at pz4
 clear e3 e4 Z14
 go_wp2_with fail
 go_ret
 exact ⟨rfl, B14.out⟩
def OwnOK (k : Nat) (a b : ByteArray) : Prop := BegunOK k ∧ ∃ so st, recensionlaw3_Cut.f a 20 = some so ∧ recensionlaw3_Cut.f b 20 = some st ∧ stack_May.f k [chg ⟨#[97]⟩ so st] = some true ∧ stack_May.f k [chg ⟨#[98]⟩ ⟨#[]⟩ ⟨#[116]⟩] = some true
noncomputable def recensionlaw25_StackOwn.f (k : Nat) (a0 a1 : ByteArray) : Option Bool := @ite _ (OwnOK k a0 a1) (Classical.propDecidable _) (some true) none
theorem recensionlaw25_StackOwn.calls (k : Nat) (a0 a1 : ByteArray) (r : Bool) (w : World) (hrt : Aside0 (r = true)) (h : recensionlaw25_StackOwn.f k a0 a1 = some r) :
  Calls Try.prog 7 #[.string a0, .string a1] w fun e w' => e = .returned (.bool r) ∧ Below w.heap.size w w' := by
 obtain rfl := hrt.out
 by_cases hc : OwnOK k a0 a1
 ·obtain ⟨h1, so, st, h2, h3, h4, h5⟩ := hc
  exact own_walk k a0 a1 so st w h1 h2 h3 h4 h5
 ·unfold recensionlaw25_StackOwn.f at h
  rw [if_neg hc] at h
  cases h

/-- THE ONE PURE STATEMENT of recensionlaw25_StackOwn: yours. -/
def recensionlaw25_StackOwn.Pure : Prop := ∀ (a0 : ByteArray) (a1 : ByteArray), (a0.size ≤ 140737488351232) → (a1.size ≤ 140737488351232) → ∃ k, recensionlaw25_StackOwn.f k a0 a1 = some true
theorem recensionlaw25_StackOwn.walk (P : recensionlaw25_StackOwn.Pure) (a0 : ByteArray) (a1 : ByteArray) (w : World) (G0 : a0.size ≤ 140737488351232) (G1 : a1.size ≤ 140737488351232) :
  Calls Try.prog 7 #[.string a0, .string a1] w fun e w' => e = .returned (.bool true) ∧ Below w.heap.size w w' := by
 obtain ⟨k, h⟩ := P a0 a1 G0 G1
 refine (recensionlaw25_StackOwn.calls k a0 a1 true w  ⟨rfl⟩ h).mono ?_
 rintro e w' ⟨rfl, hd⟩
 exact ⟨rfl, hd⟩
end Go.Proofs.Ythjbcpakpfdkaaa.PStack
