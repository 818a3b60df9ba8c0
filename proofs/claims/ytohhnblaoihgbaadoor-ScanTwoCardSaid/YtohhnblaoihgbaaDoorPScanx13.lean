-- Written by myprint.py (the prover's own turn of the printer); not trusted: Lean checks it.
import Derived.Test.YtohhnblaoihgbaaDoorPScanx0
import Derived.Test.YtohhnblaoihgbaaDoorPScanx1
import Derived.Test.YtohhnblaoihgbaaDoorPScanx5
import Derived.Test.YtohhnblaoihgbaaDoorPScanx9
import Derived.Test.YtohhnblaoihgbaaDoorPScanx10
import Derived.Test.YtohhnblaoihgbaaDoorPScanx12
namespace Go.Proofs.YtohhnblaoihgbaaDoor.PScan
open Go.RowKit Go.Proofs.YtohhnblaoihgbaaDoorW.PrintWords Go.Proofs.YtohhnblaoihgbaaDoorW.PrintLast Go.Proofs.YtohhnblaoihgbaaDoorW.PrintMore
attribute [local go_sem] str_leq op_leq op_gtr op_geq max2_int min2_int max_two min_two max_three min_three max_four min_four   -- for this text's walks alone
set_option linter.unusedVariables false
set_option linter.unusedSimpArgs false

/-! ### recensionref1_scanner_to: function 55 -/
theorem rletter_f (c : Int) : recensionref1_Letter.f c = some (letterP c) := by
 unfold recensionref1_Letter.f letterP
 by_cases h0 : c = 95
 ·subst h0; decide
 by_cases h1 : c ≥ 97 <;> by_cases h2 : c ≤ 122 <;> by_cases h3 : c ≥ 65 <;> by_cases h4 : c ≤ 90 <;> simp [h0, h1, h2, h3, h4] <;> omega
theorem rletter_c (c : Int) (b : Bool) (hb : letterP c = b) (w : World) : Calls Tryd.prog 56 #[.int .u8 c] w fun e w' => e = .returned (.bool b) ∧ Drawn0 w w' := recensionref1_Letter.calls c b w ((rletter_f c).trans (congrArg some hb))
theorem rdigit_f (c : Int) : recensionref1_Digit.f c = some (digitP c) := by
 unfold recensionref1_Digit.f digitP
 by_cases h1 : c ≥ 48 <;> by_cases h2 : c ≤ 57 <;> simp [h1, h2]
theorem rdigit_c (c : Int) (b : Bool) (hb : digitP c = b) (w : World) : Calls Tryd.prog 54 #[.int .u8 c] w fun e w' => e = .returned (.bool b) ∧ Drawn0 w w' := recensionref1_Digit.calls c b w ((rdigit_f c).trans (congrArg some hb))
set_option maxHeartbeats 4000000 in
set_option maxRecDepth 100000 in
theorem rc_to_word (g : Nat) (s : ByteArray) (at_ line : Int) (l : List S29) (c : List S32) (w0 W : World) (h : Rc w0 W g s ⟨at_, line, l, c⟩) (h0 : 0 ≤ at_) (h1 : at_ ≤ s.size) (hs : s.size ≤ 1000000) :
  Calls Tryd.prog 55 #[.pointer (some ⟨g, 0, none⟩), .int .i64 at_, .bool true] W fun e W' => e = .returned (.int .i64 (runP wordP s s.size at_)) ∧ Rc w0 W' g s ⟨at_, line, l, c⟩ := by
 obtain ⟨R, hR⟩ : ∃ R, runP wordP s s.size at_ = R := ⟨_, rfl⟩
 rw [hR]
 have HR := Aside0.mk hR
 clear hR
 have q0 := h.q0
 have HH := Aside0.mk h
 clear h
 go_enter Tryd.func55, Tryd.ntmps55
 go_wp2
 go_loopw [1] (fun e wr => ∃ (y : Int) (n : Nat), e = .int .i64 y ∧ at_ ≤ y ∧ y ≤ s.size ∧ Aside0 (runP wordP s n y = R ∧ (s.size : Int) ≤ y + n) ∧ Aside0 (Rc w0 wr g s ⟨at_, line, l, c⟩)) (fun e _ => s.size - (intOf e).toNat)
 case atStart => exact ⟨at_, s.size, rfl, Int.le_refl _, h1, ⟨HR.out, by omega⟩, ⟨HH.out⟩⟩
 case round =>
  clear q0 HR HH
  obtain ⟨y, n, rfl, ya, yl, HR, HH⟩ := hrel
  have q0 := HH.out.q0
  by_cases hlt : y < (s.size : Int)
  ·have b1 : decide (y < (s.size : Int)) = true := decide_eq_true hlt
   have p6 := eq_true (show 0 ≤ y by omega)
   have q6 := eq_true hlt
   have hx := bt_at s y
   obtain ⟨m, hm⟩ : ∃ m, n = m + 1 := ⟨n - 1, by have := HR.out.2; omega⟩
   cases hd : digitP (bt s y) with
   | true =>
    have HD := Aside0.mk hd
    have HN : Aside0 (runP wordP s m (y + 1) = R ∧ (s.size : Int) ≤ y + 1 + m) := ⟨by have := HR.out.1; rw [hm, runP_yes _ _ _ _ hlt (by unfold wordP; rw [hd]; simp)] at this; exact this, by have := HR.out.2; omega⟩
    clear hd hm HR
    go_wp2_with (go_at_call 54; (with_reducible refine (rdigit_c (bt s y) true HD.out _).mono ?_); rintro e w' ⟨rfl, ⟨nd, rfl⟩⟩; have q0 := (HH.out.drewN nd).q0)
    go_roundw
    case rel => exact ⟨y + 1, m, rfl, by omega, by omega, HN, ⟨by repeat (first | exact HH.out | apply Rc.drewN | apply Rc.drew)⟩⟩
    case measure => simp [intOf]; omega
   | false =>
    cases hw : letterP (bt s y) with
    | true =>
     have HD := Aside0.mk hd
     have HL := Aside0.mk hw
     have HN : Aside0 (runP wordP s m (y + 1) = R ∧ (s.size : Int) ≤ y + 1 + m) := ⟨by have := HR.out.1; rw [hm, runP_yes _ _ _ _ hlt (by unfold wordP; rw [hw]; simp)] at this; exact this, by have := HR.out.2; omega⟩
     clear hd hw hm HR
     go_wp2_with (first | (go_at_call 54; (with_reducible refine (rdigit_c (bt s y) false HD.out _).mono ?_); rintro e w' ⟨rfl, ⟨nd, rfl⟩⟩; have q0 := (HH.out.drewN nd).q0) | (go_at_call 56; (with_reducible refine (rletter_c (bt s y) true HL.out _).mono ?_); rintro e w' ⟨rfl, ⟨nd2, rfl⟩⟩))
     go_roundw
     case rel => exact ⟨y + 1, m, rfl, by omega, by omega, HN, ⟨by repeat (first | exact HH.out | apply Rc.drewN | apply Rc.drew)⟩⟩
     case measure => simp [intOf]; omega
    | false =>
     have HD := Aside0.mk hd
     have HL := Aside0.mk hw
     have HN : Aside0 (y = R) := ⟨by have := HR.out.1; rw [runP_no _ _ _ _ (by unfold wordP; rw [hd, hw]; rfl)] at this; exact this⟩
     clear hd hw hm HR
     go_wp2_with (first | (go_at_call 54; (with_reducible refine (rdigit_c (bt s y) false HD.out _).mono ?_); rintro e w' ⟨rfl, ⟨nd, rfl⟩⟩; have q0 := (HH.out.drewN nd).q0) | (go_at_call 56; (with_reducible refine (rletter_c (bt s y) false HL.out _).mono ?_); rintro e w' ⟨rfl, ⟨nd2, rfl⟩⟩))
     go_ret
     obtain rfl := HN.out
     exact ⟨rfl, by repeat (first | exact HH.out | apply Rc.drewN | apply Rc.drew)⟩
  ·have b1 : decide (y < (s.size : Int)) = false := decide_eq_false hlt
   have HN : Aside0 (y = R) := ⟨by have := HR.out.1; rw [runP_end _ _ _ _ hlt] at this; exact this⟩
   clear HR
   go_wp2
   go_ret
   obtain rfl := HN.out
   exact ⟨rfl, by repeat (first | exact HH.out | apply Rc.drewN | apply Rc.drew)⟩
set_option maxHeartbeats 4000000 in
set_option maxRecDepth 100000 in
theorem rc_to_digit (g : Nat) (s : ByteArray) (at_ line : Int) (l : List S29) (c : List S32) (w0 W : World) (h : Rc w0 W g s ⟨at_, line, l, c⟩) (h0 : 0 ≤ at_) (h1 : at_ ≤ s.size) (hs : s.size ≤ 1000000) :
  Calls Tryd.prog 55 #[.pointer (some ⟨g, 0, none⟩), .int .i64 at_, .bool false] W fun e W' => e = .returned (.int .i64 (runP digitP s s.size at_)) ∧ Rc w0 W' g s ⟨at_, line, l, c⟩ := by
 obtain ⟨R, hR⟩ : ∃ R, runP digitP s s.size at_ = R := ⟨_, rfl⟩
 rw [hR]
 have HR := Aside0.mk hR
 clear hR
 have q0 := h.q0
 have HH := Aside0.mk h
 clear h
 go_enter Tryd.func55, Tryd.ntmps55
 go_wp2
 go_loopw [1] (fun e wr => ∃ (y : Int) (n : Nat), e = .int .i64 y ∧ at_ ≤ y ∧ y ≤ s.size ∧ Aside0 (runP digitP s n y = R ∧ (s.size : Int) ≤ y + n) ∧ Aside0 (Rc w0 wr g s ⟨at_, line, l, c⟩)) (fun e _ => s.size - (intOf e).toNat)
 case atStart => exact ⟨at_, s.size, rfl, Int.le_refl _, h1, ⟨HR.out, by omega⟩, ⟨HH.out⟩⟩
 case round =>
  clear q0 HR HH
  obtain ⟨y, n, rfl, ya, yl, HR, HH⟩ := hrel
  have q0 := HH.out.q0
  by_cases hlt : y < (s.size : Int)
  ·have b1 : decide (y < (s.size : Int)) = true := decide_eq_true hlt
   have p6 := eq_true (show 0 ≤ y by omega)
   have q6 := eq_true hlt
   have hx := bt_at s y
   obtain ⟨m, hm⟩ : ∃ m, n = m + 1 := ⟨n - 1, by have := HR.out.2; omega⟩
   cases hd : digitP (bt s y) with
   | true =>
    have HD := Aside0.mk hd
    have HN : Aside0 (runP digitP s m (y + 1) = R ∧ (s.size : Int) ≤ y + 1 + m) := ⟨by have := HR.out.1; rw [hm, runP_yes _ _ _ _ hlt hd] at this; exact this, by have := HR.out.2; omega⟩
    clear hd hm HR
    go_wp2_with (go_at_call 54; (with_reducible refine (rdigit_c (bt s y) true HD.out _).mono ?_); rintro e w' ⟨rfl, ⟨nd, rfl⟩⟩; have q0 := (HH.out.drewN nd).q0)
    go_roundw
    case rel => exact ⟨y + 1, m, rfl, by omega, by omega, HN, ⟨by repeat (first | exact HH.out | apply Rc.drewN | apply Rc.drew)⟩⟩
    case measure => simp [intOf]; omega
   | false =>
    have HD := Aside0.mk hd
    have HN : Aside0 (y = R) := ⟨by have := HR.out.1; rw [runP_no _ _ _ _ hd] at this; exact this⟩
    clear hd hm HR
    go_wp2_with (go_at_call 54; (with_reducible refine (rdigit_c (bt s y) false HD.out _).mono ?_); rintro e w' ⟨rfl, ⟨nd, rfl⟩⟩; have q0 := (HH.out.drewN nd).q0)
    go_ret
    obtain rfl := HN.out
    exact ⟨rfl, by repeat (first | exact HH.out | apply Rc.drewN | apply Rc.drew)⟩
  ·have b1 : decide (y < (s.size : Int)) = false := decide_eq_false hlt
   have HN : Aside0 (y = R) := ⟨by have := HR.out.1; rw [runP_end _ _ _ _ hlt] at this; exact this⟩
   clear HR
   go_wp2
   go_ret
   obtain rfl := HN.out
   exact ⟨rfl, by repeat (first | exact HH.out | apply Rc.drewN | apply Rc.drew)⟩

/-! ### recensionref1_Key: function 57 -/
def recensionref1_Key.f (k : Nat) (a0 : ByteArray) : Option (Bool) := (recensionref1_in.f k a0 (([(⟨#[112, 97, 99, 107, 97, 103, 101]⟩ : ByteArray), (⟨#[105, 109, 112, 111, 114, 116]⟩ : ByteArray), (⟨#[118, 97, 114]⟩ : ByteArray), (⟨#[99, 111, 110, 115, 116]⟩ : ByteArray), (⟨#[116, 121, 112, 101]⟩ : ByteArray), (⟨#[115, 116, 114, 117, 99, 116]⟩ : ByteArray), (⟨#[102, 117, 110, 99]⟩ : ByteArray), (⟨#[105, 102]⟩ : ByteArray), (⟨#[101, 108, 115, 101]⟩ : ByteArray), (⟨#[102, 111, 114]⟩ : ByteArray), (⟨#[114, 101, 116, 117, 114, 110]⟩ : ByteArray), (⟨#[98, 114, 101, 97, 107]⟩ : ByteArray), (⟨#[99, 111, 110, 116, 105, 110, 117, 101]⟩ : ByteArray)] : List ByteArray))).bind fun t211 => (some t211)
theorem recensionref1_Key.mono : ∀ a0 k, LeO (recensionref1_Key.f k a0) (recensionref1_Key.f (k + 1) a0) := by
 intro a0 k
 unfold recensionref1_Key.f
 repeat' first
   | (with_reducible exact recensionref1_in.mono _ _ _)
   | (with_reducible exact LeO.refl _)
   | (with_reducible exact LeO.none _)
   | (with_reducible refine LeO.ite ?_ ?_)
   | (with_reducible refine LeO.bind ?_ (fun _ => ?_))
   | exact recensionref1_in.mono _ _ _
   | exact LeO.none _
   | refine LeO.ite ?_ ?_
   | refine LeO.bind ?_ (fun _ => ?_)
set_option maxHeartbeats 8000000 in
set_option maxRecDepth 100000 in
theorem recensionref1_Key.calls (k : Nat) (a0 : ByteArray) (r : Bool) (w : World) (h : recensionref1_Key.f k a0 = some r) :
  Calls Tryd.prog 57 #[.string a0] w fun e w' => e = .returned (.bool r) ∧ Below w.heap.size w w' := by
 have HB := Aside0.mk (Below.refl w.heap.size w)
 have H : ((recensionref1_in.f k a0 (([(⟨#[112, 97, 99, 107, 97, 103, 101]⟩ : ByteArray), (⟨#[105, 109, 112, 111, 114, 116]⟩ : ByteArray), (⟨#[118, 97, 114]⟩ : ByteArray), (⟨#[99, 111, 110, 115, 116]⟩ : ByteArray), (⟨#[116, 121, 112, 101]⟩ : ByteArray), (⟨#[115, 116, 114, 117, 99, 116]⟩ : ByteArray), (⟨#[102, 117, 110, 99]⟩ : ByteArray), (⟨#[105, 102]⟩ : ByteArray), (⟨#[101, 108, 115, 101]⟩ : ByteArray), (⟨#[102, 111, 114]⟩ : ByteArray), (⟨#[114, 101, 116, 117, 114, 110]⟩ : ByteArray), (⟨#[98, 114, 101, 97, 107]⟩ : ByteArray), (⟨#[99, 111, 110, 116, 105, 110, 117, 101]⟩ : ByteArray)] : List ByteArray))).bind fun t211 => (some t211)) = some r := h
 clear h
 obtain ⟨y208, hy208⟩ : ∃ y_ : List ByteArray, y_ = (([(⟨#[112, 97, 99, 107, 97, 103, 101]⟩ : ByteArray), (⟨#[105, 109, 112, 111, 114, 116]⟩ : ByteArray), (⟨#[118, 97, 114]⟩ : ByteArray), (⟨#[99, 111, 110, 115, 116]⟩ : ByteArray), (⟨#[116, 121, 112, 101]⟩ : ByteArray), (⟨#[115, 116, 114, 117, 99, 116]⟩ : ByteArray), (⟨#[102, 117, 110, 99]⟩ : ByteArray), (⟨#[105, 102]⟩ : ByteArray), (⟨#[101, 108, 115, 101]⟩ : ByteArray), (⟨#[102, 111, 114]⟩ : ByteArray), (⟨#[114, 101, 116, 117, 114, 110]⟩ : ByteArray), (⟨#[98, 114, 101, 97, 107]⟩ : ByteArray), (⟨#[99, 111, 110, 116, 105, 110, 117, 101]⟩ : ByteArray)] : List ByteArray)) := ⟨_, rfl⟩
 replace H : ((recensionref1_in.f k a0 y208).bind fun t211 => (some t211)) = some r := by first | (rw [hy208]; with_reducible exact H) | (have H2_ := (Option.bind_some _ _).symm.trans H; rw [hy208]; with_reducible exact H2_) | (have H2_ := (Option.bind_some _ _).symm.trans H; with_reducible exact H2_) | with_reducible exact H | (rw [hy208]; exact H) | exact H
 have Ny208 := Aside0.mk hy208
 clear hy208
 replace H := Option.bind_eq_some_iff.mp H
 obtain ⟨t211, A20, H⟩ := H
 replace H : (some t211) = some r := H
 have A2 := Aside0.mk A20
 clear A20
 obtain rfl := Option.some.inj H
 go_enter Tryd.func57, Tryd.ntmps57
 go_wp2_with (first | ((with_reducible refine gate_dst (N := 4) rfl ?_); refine Kd.R_lit Kd.string _ 9 ?hg (N := 4) ?hd (xs := ([(⟨#[112, 97, 99, 107, 97, 103, 101]⟩ : ByteArray), (⟨#[105, 109, 112, 111, 114, 116]⟩ : ByteArray), (⟨#[118, 97, 114]⟩ : ByteArray), (⟨#[99, 111, 110, 115, 116]⟩ : ByteArray), (⟨#[116, 121, 112, 101]⟩ : ByteArray), (⟨#[115, 116, 114, 117, 99, 116]⟩ : ByteArray), (⟨#[102, 117, 110, 99]⟩ : ByteArray), (⟨#[105, 102]⟩ : ByteArray), (⟨#[101, 108, 115, 101]⟩ : ByteArray), (⟨#[102, 111, 114]⟩ : ByteArray), (⟨#[114, 101, 116, 117, 114, 110]⟩ : ByteArray), (⟨#[98, 114, 101, 97, 107]⟩ : ByteArray), (⟨#[99, 111, 110, 116, 105, 110, 117, 101]⟩ : ByteArray)] : List ByteArray)) (inner := [.string (⟨#[112, 97, 99, 107, 97, 103, 101]⟩ : ByteArray), .string (⟨#[105, 109, 112, 111, 114, 116]⟩ : ByteArray), .string (⟨#[118, 97, 114]⟩ : ByteArray), .string (⟨#[99, 111, 110, 115, 116]⟩ : ByteArray), .string (⟨#[116, 121, 112, 101]⟩ : ByteArray), .string (⟨#[115, 116, 114, 117, 99, 116]⟩ : ByteArray), .string (⟨#[102, 117, 110, 99]⟩ : ByteArray), .string (⟨#[105, 102]⟩ : ByteArray), .string (⟨#[101, 108, 115, 101]⟩ : ByteArray), .string (⟨#[102, 111, 114]⟩ : ByteArray), .string (⟨#[114, 101, 116, 117, 114, 110]⟩ : ByteArray), .string (⟨#[98, 114, 101, 97, 107]⟩ : ByteArray), .string (⟨#[99, 111, 110, 116, 105, 110, 117, 101]⟩ : ByteArray)]) (ok := fun _ => True) (okp := fun _ => True) ?hr ?hp (fun _ hk => hk) trivial (Below.refl _ _) (Nat.le_refl _) (by simp) ?_; (case hd => rfl); (case hg => rfl); (case hr => first | (go_simp; done) | (go_simp; rfl)); (case hp => exact (Reps.one (show Kd.M Kd.string _ _ _ (⟨#[112, 97, 99, 107, 97, 103, 101]⟩ : ByteArray) [.string (⟨#[112, 97, 99, 107, 97, 103, 101]⟩ : ByteArray)] from rfl) (Reps.one (show Kd.M Kd.string _ _ _ (⟨#[105, 109, 112, 111, 114, 116]⟩ : ByteArray) [.string (⟨#[105, 109, 112, 111, 114, 116]⟩ : ByteArray)] from rfl) (Reps.one (show Kd.M Kd.string _ _ _ (⟨#[118, 97, 114]⟩ : ByteArray) [.string (⟨#[118, 97, 114]⟩ : ByteArray)] from rfl) (Reps.one (show Kd.M Kd.string _ _ _ (⟨#[99, 111, 110, 115, 116]⟩ : ByteArray) [.string (⟨#[99, 111, 110, 115, 116]⟩ : ByteArray)] from rfl) (Reps.one (show Kd.M Kd.string _ _ _ (⟨#[116, 121, 112, 101]⟩ : ByteArray) [.string (⟨#[116, 121, 112, 101]⟩ : ByteArray)] from rfl) (Reps.one (show Kd.M Kd.string _ _ _ (⟨#[115, 116, 114, 117, 99, 116]⟩ : ByteArray) [.string (⟨#[115, 116, 114, 117, 99, 116]⟩ : ByteArray)] from rfl) (Reps.one (show Kd.M Kd.string _ _ _ (⟨#[102, 117, 110, 99]⟩ : ByteArray) [.string (⟨#[102, 117, 110, 99]⟩ : ByteArray)] from rfl) (Reps.one (show Kd.M Kd.string _ _ _ (⟨#[105, 102]⟩ : ByteArray) [.string (⟨#[105, 102]⟩ : ByteArray)] from rfl) (Reps.one (show Kd.M Kd.string _ _ _ (⟨#[101, 108, 115, 101]⟩ : ByteArray) [.string (⟨#[101, 108, 115, 101]⟩ : ByteArray)] from rfl) (Reps.one (show Kd.M Kd.string _ _ _ (⟨#[102, 111, 114]⟩ : ByteArray) [.string (⟨#[102, 111, 114]⟩ : ByteArray)] from rfl) (Reps.one (show Kd.M Kd.string _ _ _ (⟨#[114, 101, 116, 117, 114, 110]⟩ : ByteArray) [.string (⟨#[114, 101, 116, 117, 114, 110]⟩ : ByteArray)] from rfl) (Reps.one (show Kd.M Kd.string _ _ _ (⟨#[98, 114, 101, 97, 107]⟩ : ByteArray) [.string (⟨#[98, 114, 101, 97, 107]⟩ : ByteArray)] from rfl) (Reps.one (show Kd.M Kd.string _ _ _ (⟨#[99, 111, 110, 116, 105, 110, 117, 101]⟩ : ByteArray) [.string (⟨#[99, 111, 110, 116, 105, 110, 117, 101]⟩ : ByteArray)] from rfl) (Reps.none _ _))))))))))))))); intro v209 w3 ho4 hb hg_ hnew_; clear hg_ hnew_; (first | rw [← Ny208.out] at ho4 | (simp only [Int.reduceToNat] at ho4; rw [← Ny208.out] at ho4)); have n0_ := Aside0.mk (Kd.R_lower ho4 (below_size (by repeat (first | (with_reducible first | exact HB.out | apply below_alloc | apply pw_below_drewN | apply below_drew1) | exact HB.out)))); have n1_ := Aside0.mk (below_step (by repeat (first | (with_reducible first | exact HB.out | apply below_alloc | apply pw_below_drewN | apply below_drew1) | exact HB.out)) hb); clear HB; have HO210 := n0_; have HB := n1_; clear n0_ n1_; clear hb ho4; obtain ⟨Ao5, co5, eo5⟩ := Kd.R_slice HO210.out; subst eo5) | ((with_reducible refine gate_callee (f := 28) rfl ?_); refine goesL_ (some 5) rfl rfl Tryd.func28 (by kernel_rfl) rfl #[.string a0, .slice Ao5 y208.length co5] rfl (by (try simp only [List.map_toArray, List.map_cons, List.map_nil]); first | done | rfl | (simp only [List.length_drop, List.length_take]; rfl) | (simp only [wrap64_wl, wrap64_wr]; rfl)) ?_; (with_reducible refine (recensionref1_in.calls k a0 _ _ y208 t211 _ ?side1 ?side2 A2.out).mono ?_); (case side1 => repeat (first | exact (Kd.R_reads' HO210.out).2.2 | (with_reducible refine Kd.C_alloc ?_ _) | (with_reducible refine Kd.C_drewN ?_ _) | (with_reducible refine Kd.C_drew ?_))); (case side2 => exact (Kd.R_reads' HO210.out).2.1); rintro e w' ⟨rfl, ⟨nd, rfl⟩⟩; refine ⟨_, rfl, ?_⟩))
 go_ret
 exact ⟨by first | rfl | (simp [errW_none, errW_some] <;> rfl) | (simp [*, errW_none, errW_some] <;> rfl), by repeat (first | (with_reducible first | exact HB.out | apply below_alloc | apply pw_below_drewN | apply below_drew1) | exact HB.out)⟩

/-! ### recensionref1_Op: function 58 -/
def recensionref1_Op.f (k : Nat) (a0 : ByteArray) : Option (Bool) := (recensionref1_in.f k a0 (([(⟨#[40]⟩ : ByteArray), (⟨#[41]⟩ : ByteArray), (⟨#[123]⟩ : ByteArray), (⟨#[125]⟩ : ByteArray), (⟨#[44]⟩ : ByteArray), (⟨#[46]⟩ : ByteArray), (⟨#[58]⟩ : ByteArray), (⟨#[58, 61]⟩ : ByteArray), (⟨#[61]⟩ : ByteArray), (⟨#[61, 61]⟩ : ByteArray), (⟨#[33, 61]⟩ : ByteArray), (⟨#[60]⟩ : ByteArray), (⟨#[43]⟩ : ByteArray), (⟨#[45]⟩ : ByteArray), (⟨#[42]⟩ : ByteArray), (⟨#[33]⟩ : ByteArray), (⟨#[38, 38]⟩ : ByteArray), (⟨#[124, 124]⟩ : ByteArray)] : List ByteArray))).bind fun t215 => (some t215)
theorem recensionref1_Op.mono : ∀ a0 k, LeO (recensionref1_Op.f k a0) (recensionref1_Op.f (k + 1) a0) := by
 intro a0 k
 unfold recensionref1_Op.f
 repeat' first
   | (with_reducible exact recensionref1_in.mono _ _ _)
   | (with_reducible exact LeO.refl _)
   | (with_reducible exact LeO.none _)
   | (with_reducible refine LeO.ite ?_ ?_)
   | (with_reducible refine LeO.bind ?_ (fun _ => ?_))
   | exact recensionref1_in.mono _ _ _
   | exact LeO.none _
   | refine LeO.ite ?_ ?_
   | refine LeO.bind ?_ (fun _ => ?_)
set_option maxHeartbeats 8000000 in
set_option maxRecDepth 100000 in
theorem recensionref1_Op.calls (k : Nat) (a0 : ByteArray) (r : Bool) (w : World) (h : recensionref1_Op.f k a0 = some r) :
  Calls Tryd.prog 58 #[.string a0] w fun e w' => e = .returned (.bool r) ∧ Below w.heap.size w w' := by
 have HB := Aside0.mk (Below.refl w.heap.size w)
 have H : ((recensionref1_in.f k a0 (([(⟨#[40]⟩ : ByteArray), (⟨#[41]⟩ : ByteArray), (⟨#[123]⟩ : ByteArray), (⟨#[125]⟩ : ByteArray), (⟨#[44]⟩ : ByteArray), (⟨#[46]⟩ : ByteArray), (⟨#[58]⟩ : ByteArray), (⟨#[58, 61]⟩ : ByteArray), (⟨#[61]⟩ : ByteArray), (⟨#[61, 61]⟩ : ByteArray), (⟨#[33, 61]⟩ : ByteArray), (⟨#[60]⟩ : ByteArray), (⟨#[43]⟩ : ByteArray), (⟨#[45]⟩ : ByteArray), (⟨#[42]⟩ : ByteArray), (⟨#[33]⟩ : ByteArray), (⟨#[38, 38]⟩ : ByteArray), (⟨#[124, 124]⟩ : ByteArray)] : List ByteArray))).bind fun t215 => (some t215)) = some r := h
 clear h
 obtain ⟨y212, hy212⟩ : ∃ y_ : List ByteArray, y_ = (([(⟨#[40]⟩ : ByteArray), (⟨#[41]⟩ : ByteArray), (⟨#[123]⟩ : ByteArray), (⟨#[125]⟩ : ByteArray), (⟨#[44]⟩ : ByteArray), (⟨#[46]⟩ : ByteArray), (⟨#[58]⟩ : ByteArray), (⟨#[58, 61]⟩ : ByteArray), (⟨#[61]⟩ : ByteArray), (⟨#[61, 61]⟩ : ByteArray), (⟨#[33, 61]⟩ : ByteArray), (⟨#[60]⟩ : ByteArray), (⟨#[43]⟩ : ByteArray), (⟨#[45]⟩ : ByteArray), (⟨#[42]⟩ : ByteArray), (⟨#[33]⟩ : ByteArray), (⟨#[38, 38]⟩ : ByteArray), (⟨#[124, 124]⟩ : ByteArray)] : List ByteArray)) := ⟨_, rfl⟩
 replace H : ((recensionref1_in.f k a0 y212).bind fun t215 => (some t215)) = some r := by first | (rw [hy212]; with_reducible exact H) | (have H2_ := (Option.bind_some _ _).symm.trans H; rw [hy212]; with_reducible exact H2_) | (have H2_ := (Option.bind_some _ _).symm.trans H; with_reducible exact H2_) | with_reducible exact H | (rw [hy212]; exact H) | exact H
 have Ny212 := Aside0.mk hy212
 clear hy212
 replace H := Option.bind_eq_some_iff.mp H
 obtain ⟨t215, A20, H⟩ := H
 replace H : (some t215) = some r := H
 have A2 := Aside0.mk A20
 clear A20
 obtain rfl := Option.some.inj H
 go_enter Tryd.func58, Tryd.ntmps58
 go_wp2_with (first | ((with_reducible refine gate_dst (N := 4) rfl ?_); refine Kd.R_lit Kd.string _ 9 ?hg (N := 4) ?hd (xs := ([(⟨#[40]⟩ : ByteArray), (⟨#[41]⟩ : ByteArray), (⟨#[123]⟩ : ByteArray), (⟨#[125]⟩ : ByteArray), (⟨#[44]⟩ : ByteArray), (⟨#[46]⟩ : ByteArray), (⟨#[58]⟩ : ByteArray), (⟨#[58, 61]⟩ : ByteArray), (⟨#[61]⟩ : ByteArray), (⟨#[61, 61]⟩ : ByteArray), (⟨#[33, 61]⟩ : ByteArray), (⟨#[60]⟩ : ByteArray), (⟨#[43]⟩ : ByteArray), (⟨#[45]⟩ : ByteArray), (⟨#[42]⟩ : ByteArray), (⟨#[33]⟩ : ByteArray), (⟨#[38, 38]⟩ : ByteArray), (⟨#[124, 124]⟩ : ByteArray)] : List ByteArray)) (inner := [.string (⟨#[40]⟩ : ByteArray), .string (⟨#[41]⟩ : ByteArray), .string (⟨#[123]⟩ : ByteArray), .string (⟨#[125]⟩ : ByteArray), .string (⟨#[44]⟩ : ByteArray), .string (⟨#[46]⟩ : ByteArray), .string (⟨#[58]⟩ : ByteArray), .string (⟨#[58, 61]⟩ : ByteArray), .string (⟨#[61]⟩ : ByteArray), .string (⟨#[61, 61]⟩ : ByteArray), .string (⟨#[33, 61]⟩ : ByteArray), .string (⟨#[60]⟩ : ByteArray), .string (⟨#[43]⟩ : ByteArray), .string (⟨#[45]⟩ : ByteArray), .string (⟨#[42]⟩ : ByteArray), .string (⟨#[33]⟩ : ByteArray), .string (⟨#[38, 38]⟩ : ByteArray), .string (⟨#[124, 124]⟩ : ByteArray)]) (ok := fun _ => True) (okp := fun _ => True) ?hr ?hp (fun _ hk => hk) trivial (Below.refl _ _) (Nat.le_refl _) (by simp) ?_; (case hd => rfl); (case hg => rfl); (case hr => first | (go_simp; done) | (go_simp; rfl)); (case hp => exact (Reps.one (show Kd.M Kd.string _ _ _ (⟨#[40]⟩ : ByteArray) [.string (⟨#[40]⟩ : ByteArray)] from rfl) (Reps.one (show Kd.M Kd.string _ _ _ (⟨#[41]⟩ : ByteArray) [.string (⟨#[41]⟩ : ByteArray)] from rfl) (Reps.one (show Kd.M Kd.string _ _ _ (⟨#[123]⟩ : ByteArray) [.string (⟨#[123]⟩ : ByteArray)] from rfl) (Reps.one (show Kd.M Kd.string _ _ _ (⟨#[125]⟩ : ByteArray) [.string (⟨#[125]⟩ : ByteArray)] from rfl) (Reps.one (show Kd.M Kd.string _ _ _ (⟨#[44]⟩ : ByteArray) [.string (⟨#[44]⟩ : ByteArray)] from rfl) (Reps.one (show Kd.M Kd.string _ _ _ (⟨#[46]⟩ : ByteArray) [.string (⟨#[46]⟩ : ByteArray)] from rfl) (Reps.one (show Kd.M Kd.string _ _ _ (⟨#[58]⟩ : ByteArray) [.string (⟨#[58]⟩ : ByteArray)] from rfl) (Reps.one (show Kd.M Kd.string _ _ _ (⟨#[58, 61]⟩ : ByteArray) [.string (⟨#[58, 61]⟩ : ByteArray)] from rfl) (Reps.one (show Kd.M Kd.string _ _ _ (⟨#[61]⟩ : ByteArray) [.string (⟨#[61]⟩ : ByteArray)] from rfl) (Reps.one (show Kd.M Kd.string _ _ _ (⟨#[61, 61]⟩ : ByteArray) [.string (⟨#[61, 61]⟩ : ByteArray)] from rfl) (Reps.one (show Kd.M Kd.string _ _ _ (⟨#[33, 61]⟩ : ByteArray) [.string (⟨#[33, 61]⟩ : ByteArray)] from rfl) (Reps.one (show Kd.M Kd.string _ _ _ (⟨#[60]⟩ : ByteArray) [.string (⟨#[60]⟩ : ByteArray)] from rfl) (Reps.one (show Kd.M Kd.string _ _ _ (⟨#[43]⟩ : ByteArray) [.string (⟨#[43]⟩ : ByteArray)] from rfl) (Reps.one (show Kd.M Kd.string _ _ _ (⟨#[45]⟩ : ByteArray) [.string (⟨#[45]⟩ : ByteArray)] from rfl) (Reps.one (show Kd.M Kd.string _ _ _ (⟨#[42]⟩ : ByteArray) [.string (⟨#[42]⟩ : ByteArray)] from rfl) (Reps.one (show Kd.M Kd.string _ _ _ (⟨#[33]⟩ : ByteArray) [.string (⟨#[33]⟩ : ByteArray)] from rfl) (Reps.one (show Kd.M Kd.string _ _ _ (⟨#[38, 38]⟩ : ByteArray) [.string (⟨#[38, 38]⟩ : ByteArray)] from rfl) (Reps.one (show Kd.M Kd.string _ _ _ (⟨#[124, 124]⟩ : ByteArray) [.string (⟨#[124, 124]⟩ : ByteArray)] from rfl) (Reps.none _ _)))))))))))))))))))); intro v213 w3 ho4 hb hg_ hnew_; clear hg_ hnew_; (first | rw [← Ny212.out] at ho4 | (simp only [Int.reduceToNat] at ho4; rw [← Ny212.out] at ho4)); have n0_ := Aside0.mk (Kd.R_lower ho4 (below_size (by repeat (first | (with_reducible first | exact HB.out | apply below_alloc | apply pw_below_drewN | apply below_drew1) | exact HB.out)))); have n1_ := Aside0.mk (below_step (by repeat (first | (with_reducible first | exact HB.out | apply below_alloc | apply pw_below_drewN | apply below_drew1) | exact HB.out)) hb); clear HB; have HO214 := n0_; have HB := n1_; clear n0_ n1_; clear hb ho4; obtain ⟨Ao5, co5, eo5⟩ := Kd.R_slice HO214.out; subst eo5) | ((with_reducible refine gate_callee (f := 28) rfl ?_); refine goesL_ (some 5) rfl rfl Tryd.func28 (by kernel_rfl) rfl #[.string a0, .slice Ao5 y212.length co5] rfl (by (try simp only [List.map_toArray, List.map_cons, List.map_nil]); first | done | rfl | (simp only [List.length_drop, List.length_take]; rfl) | (simp only [wrap64_wl, wrap64_wr]; rfl)) ?_; (with_reducible refine (recensionref1_in.calls k a0 _ _ y212 t215 _ ?side1 ?side2 A2.out).mono ?_); (case side1 => repeat (first | exact (Kd.R_reads' HO214.out).2.2 | (with_reducible refine Kd.C_alloc ?_ _) | (with_reducible refine Kd.C_drewN ?_ _) | (with_reducible refine Kd.C_drew ?_))); (case side2 => exact (Kd.R_reads' HO214.out).2.1); rintro e w' ⟨rfl, ⟨nd, rfl⟩⟩; refine ⟨_, rfl, ?_⟩))
 go_ret
 exact ⟨by first | rfl | (simp [errW_none, errW_some] <;> rfl) | (simp [*, errW_none, errW_some] <;> rfl), by repeat (first | (with_reducible first | exact HB.out | apply below_alloc | apply pw_below_drewN | apply below_drew1) | exact HB.out)⟩

end Go.Proofs.YtohhnblaoihgbaaDoor.PScan
