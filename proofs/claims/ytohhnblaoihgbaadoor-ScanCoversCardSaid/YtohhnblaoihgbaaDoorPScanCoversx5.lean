-- Written by myprint.py (the prover's own turn of the printer); not trusted: Lean checks it.
import Derived.Test.YtohhnblaoihgbaaDoorPScanCoversx0
import Derived.Test.YtohhnblaoihgbaaDoorPScanCoversx1
import Derived.Test.YtohhnblaoihgbaaDoorPScanCoversx2
import Derived.Test.YtohhnblaoihgbaaDoorPScanCoversx3
import Derived.Test.YtohhnblaoihgbaaDoorPScanCoversx4
namespace Go.Proofs.YtohhnblaoihgbaaDoor.PScanCovers
open Go.RowKit Go.Proofs.YtohhnblaoihgbaaDoorW.PrintWords Go.Proofs.YtohhnblaoihgbaaDoorW.PrintLast Go.Proofs.YtohhnblaoihgbaaDoorW.PrintMore
attribute [local go_sem] str_leq op_leq op_gtr op_geq max2_int min2_int max_two min_two max_three min_three max_four min_four   -- for this text's walks alone
set_option linter.unusedVariables false
set_option linter.unusedSimpArgs false

/-! ### scan_scanner_one: function 20 -/
theorem word_f (c : Int) : scan_word.f c = some (wordP c) := by
 unfold scan_word.f wordP
 rw [letter_f, digit_f]
 cases letterP c <;> cases digitP c <;> rfl
theorem word_c (c : Int) (b : Bool) (hb : wordP c = b) (w : World) : Calls Tryd.prog 34 #[.int .u8 c] w fun e w' => e = .returned (.bool b) ∧ Drawn0 w w' := scan_word.calls c b w ((word_f c).trans (congrArg some hb))
theorem runP_end (p : Int → Bool) (s : ByteArray) (n : Nat) (e : Int) (h : ¬ e < s.size) : runP p s n e = e := by
 cases n with
 | zero => rfl
 | succ n => rw [runP, if_neg (fun h2 => h h2.1)]
theorem runP_no (p : Int → Bool) (s : ByteArray) (n : Nat) (e : Int) (h : p (bt s e) = false) : runP p s n e = e := by
 cases n with
 | zero => rfl
 | succ n => rw [runP, if_neg (fun h2 => by rw [h] at h2; exact absurd h2.2 (by decide))]
theorem runP_yes (p : Int → Bool) (s : ByteArray) (n : Nat) (e : Int) (h1 : e < s.size) (h : p (bt s e) = true) : runP p s (n + 1) e = runP p s n (e + 1) := by rw [runP, if_pos ⟨h1, h⟩]
set_option maxHeartbeats 4000000 in
set_option maxRecDepth 100000 in
theorem sc_run_word (g : Nat) (s : ByteArray) (at_ line : Int) (l : List S29) (c : List S32) (fault : Int) (w0 W : World) (h : Sc w0 W g s ⟨at_, line, l, c, fault⟩) (h0 : 0 ≤ at_) (h1 : at_ ≤ s.size) (hs : s.size ≤ 1000000) :
  Calls Tryd.prog 33 #[.pointer (some ⟨g, 0, none⟩), .func (Fn.func 34) #[] #[]] W fun e W' => e = .returned (.string (s.extract at_.toNat (runP wordP s s.size at_).toNat)) ∧ Sc w0 W' g s ⟨at_, line, l, c, fault⟩ := by
 obtain ⟨R, hR⟩ : ∃ R, runP wordP s s.size at_ = R := ⟨_, rfl⟩
 rw [hR]
 have HR := Aside0.mk hR
 clear hR
 have q0 := h.q0
 have q1 := h.q1
 have HH := Aside0.mk h
 clear h
 go_enter Tryd.func33, Tryd.ntmps33
 go_wp2
 go_loopw [5] (fun e wr => ∃ (y : Int) (n : Nat), e = .int .i64 y ∧ at_ ≤ y ∧ y ≤ s.size ∧ Aside0 (runP wordP s n y = R ∧ (s.size : Int) ≤ y + n) ∧ Aside0 (Sc w0 wr g s ⟨at_, line, l, c, fault⟩)) (fun e _ => s.size - (intOf e).toNat)
 case atStart => exact ⟨at_, s.size, rfl, Int.le_refl _, h1, ⟨HR.out, by omega⟩, ⟨HH.out⟩⟩
 case round =>
  clear q0 q1 HR HH
  obtain ⟨y, n, rfl, ya, yl, HR, HH⟩ := hrel
  have q0 := HH.out.q0
  have q1 := HH.out.q1
  by_cases hlt : y < (s.size : Int)
  ·have b1 : decide (y < (s.size : Int)) = true := decide_eq_true hlt
   have p6 := eq_true (show 0 ≤ y by omega)
   have q6 := eq_true hlt
   have hx := bt_at s y
   obtain ⟨m, hm⟩ : ∃ m, n = m + 1 := ⟨n - 1, by have := HR.out.2; omega⟩
   cases hb : wordP (bt s y) with
   | true =>
    have HB := Aside0.mk hb
    have HN : Aside0 (runP wordP s m (y + 1) = R ∧ (s.size : Int) ≤ y + 1 + m) := ⟨by have := HR.out.1; rw [hm, runP_yes _ _ _ _ hlt hb] at this; exact this, by have := HR.out.2; omega⟩
    clear hb hm HR
    go_wp2_with (go_at_call 34; (with_reducible refine (word_c (bt s y) true HB.out _).mono ?_); rintro e w' ⟨rfl, ⟨nd, rfl⟩⟩)
    go_roundw
    case rel => exact ⟨y + 1, m, rfl, by omega, by omega, HN, ⟨HH.out.drewN _⟩⟩
    case measure => simp [intOf]; omega
   | false =>
    have HB := Aside0.mk hb
    have HN : Aside0 (y = R) := ⟨by have := HR.out.1; rw [runP_no _ _ _ _ hb] at this; exact this⟩
    clear hb hm HR
    have b2 : decide (0 ≤ at_) = true := decide_eq_true h0
    have b3 : decide (at_ ≤ y) = true := decide_eq_true ya
    have b4 : decide (y ≤ (s.size : Int)) = true := decide_eq_true yl
    go_wp2_with (go_at_call 34; (with_reducible refine (word_c (bt s y) false HB.out _).mono ?_); rintro e w' ⟨rfl, ⟨nd, rfl⟩⟩)
    repeat (go_quiet (fail); try go_wp2)
    go_ret
    obtain rfl := HN.out
    exact ⟨rfl, by repeat (first | exact HH.out | apply Sc.drewN | apply Sc.drew)⟩
  ·have b1 : decide (y < (s.size : Int)) = false := decide_eq_false hlt
   have HN : Aside0 (y = R) := ⟨by have := HR.out.1; rw [runP_end _ _ _ _ hlt] at this; exact this⟩
   clear HR
   have b2 : decide (0 ≤ at_) = true := decide_eq_true h0
   have b3 : decide (at_ ≤ y) = true := decide_eq_true ya
   have b4 : decide (y ≤ (s.size : Int)) = true := decide_eq_true yl
   go_wp2
   repeat (go_quiet (fail); try go_wp2)
   go_ret
   obtain rfl := HN.out
   exact ⟨rfl, by repeat (first | exact HH.out | apply Sc.drewN | apply Sc.drew)⟩
set_option maxHeartbeats 4000000 in
set_option maxRecDepth 100000 in
theorem sc_run_digit (g : Nat) (s : ByteArray) (at_ line : Int) (l : List S29) (c : List S32) (fault : Int) (w0 W : World) (h : Sc w0 W g s ⟨at_, line, l, c, fault⟩) (h0 : 0 ≤ at_) (h1 : at_ ≤ s.size) (hs : s.size ≤ 1000000) :
  Calls Tryd.prog 33 #[.pointer (some ⟨g, 0, none⟩), .func (Fn.func 35) #[] #[]] W fun e W' => e = .returned (.string (s.extract at_.toNat (runP digitP s s.size at_).toNat)) ∧ Sc w0 W' g s ⟨at_, line, l, c, fault⟩ := by
 obtain ⟨R, hR⟩ : ∃ R, runP digitP s s.size at_ = R := ⟨_, rfl⟩
 rw [hR]
 have HR := Aside0.mk hR
 clear hR
 have q0 := h.q0
 have q1 := h.q1
 have HH := Aside0.mk h
 clear h
 go_enter Tryd.func33, Tryd.ntmps33
 go_wp2
 go_loopw [5] (fun e wr => ∃ (y : Int) (n : Nat), e = .int .i64 y ∧ at_ ≤ y ∧ y ≤ s.size ∧ Aside0 (runP digitP s n y = R ∧ (s.size : Int) ≤ y + n) ∧ Aside0 (Sc w0 wr g s ⟨at_, line, l, c, fault⟩)) (fun e _ => s.size - (intOf e).toNat)
 case atStart => exact ⟨at_, s.size, rfl, Int.le_refl _, h1, ⟨HR.out, by omega⟩, ⟨HH.out⟩⟩
 case round =>
  clear q0 q1 HR HH
  obtain ⟨y, n, rfl, ya, yl, HR, HH⟩ := hrel
  have q0 := HH.out.q0
  have q1 := HH.out.q1
  by_cases hlt : y < (s.size : Int)
  ·have b1 : decide (y < (s.size : Int)) = true := decide_eq_true hlt
   have p6 := eq_true (show 0 ≤ y by omega)
   have q6 := eq_true hlt
   have hx := bt_at s y
   obtain ⟨m, hm⟩ : ∃ m, n = m + 1 := ⟨n - 1, by have := HR.out.2; omega⟩
   cases hb : digitP (bt s y) with
   | true =>
    have HB := Aside0.mk hb
    have HN : Aside0 (runP digitP s m (y + 1) = R ∧ (s.size : Int) ≤ y + 1 + m) := ⟨by have := HR.out.1; rw [hm, runP_yes _ _ _ _ hlt hb] at this; exact this, by have := HR.out.2; omega⟩
    clear hb hm HR
    go_wp2_with (go_at_call 35; (with_reducible refine (digit_c (bt s y) true HB.out _).mono ?_); rintro e w' ⟨rfl, ⟨nd, rfl⟩⟩)
    go_roundw
    case rel => exact ⟨y + 1, m, rfl, by omega, by omega, HN, ⟨HH.out.drewN _⟩⟩
    case measure => simp [intOf]; omega
   | false =>
    have HB := Aside0.mk hb
    have HN : Aside0 (y = R) := ⟨by have := HR.out.1; rw [runP_no _ _ _ _ hb] at this; exact this⟩
    clear hb hm HR
    have b2 : decide (0 ≤ at_) = true := decide_eq_true h0
    have b3 : decide (at_ ≤ y) = true := decide_eq_true ya
    have b4 : decide (y ≤ (s.size : Int)) = true := decide_eq_true yl
    go_wp2_with (go_at_call 35; (with_reducible refine (digit_c (bt s y) false HB.out _).mono ?_); rintro e w' ⟨rfl, ⟨nd, rfl⟩⟩)
    repeat (go_quiet (fail); try go_wp2)
    go_ret
    obtain rfl := HN.out
    exact ⟨rfl, by repeat (first | exact HH.out | apply Sc.drewN | apply Sc.drew)⟩
  ·have b1 : decide (y < (s.size : Int)) = false := decide_eq_false hlt
   have HN : Aside0 (y = R) := ⟨by have := HR.out.1; rw [runP_end _ _ _ _ hlt] at this; exact this⟩
   clear HR
   have b2 : decide (0 ≤ at_) = true := decide_eq_true h0
   have b3 : decide (at_ ≤ y) = true := decide_eq_true ya
   have b4 : decide (y ≤ (s.size : Int)) = true := decide_eq_true yl
   go_wp2
   repeat (go_quiet (fail); try go_wp2)
   go_ret
   obtain rfl := HN.out
   exact ⟨rfl, by repeat (first | exact HH.out | apply Sc.drewN | apply Sc.drew)⟩
def slashP (t : ByteArray) : Bool := decide (t.size ≥ 2) && ((t.extract 0 2).toList == [47, 47])
theorem slash_f (t : ByteArray) : strings_HasPrefix.f t (⟨#[47, 47]⟩ : ByteArray) = some (slashP t) := by
 unfold strings_HasPrefix.f stringslite_HasPrefix.f slashP
 have e : (((⟨#[47, 47]⟩ : ByteArray).size : Nat) : Int) = 2 := rfl
 have e2 : (⟨#[47, 47]⟩ : ByteArray).toList = [47, 47] := by decide +kernel
 rw [e, e2]
 by_cases h : t.size ≥ 2
 ·rw [if_pos (by omega), if_pos (by omega), if_pos (by omega)]; simp [h]
 ·rw [if_neg (by omega)]; simp [h]
theorem slash_c (t : ByteArray) (b : Bool) (hb : slashP t = b) (w : World) : Calls Tryd.prog 29 #[.string t, .string ⟨#[47, 47]⟩] w fun e w' => e = .returned (.bool b) ∧ Drawn0 w w' := strings_HasPrefix.calls t _ b w ((slash_f t).trans (congrArg some hb))
def oneP (s : ByteArray) (at_ line : Int) (l : List S29) (c : List S32) (fault : Int) : ScSt :=
 if bt s at_ = 10 then ⟨at_ + 1, line + 1, semiL l at_ line, c, fault⟩
 else if bt s at_ = 32 ∨ bt s at_ = 9 then ⟨at_ + 1, line, l, c, fault⟩
 else if slashP (s.extract at_.toNat s.size) = true then ⟨at_ + (restP s at_).size, line, semiL l at_ line, c ++ [⟨restP s at_, at_, line, (semiL l at_ line).length⟩], fault⟩
 else if letterP (bt s at_) = true then nameP at_ line l c fault (s.extract at_.toNat (runP wordP s s.size at_).toNat)
 else if digitP (bt s at_) = true then numberP s at_ line l c fault (s.extract at_.toNat (runP digitP s s.size at_).toNat)
 else if bt s at_ = 34 then textP at_ line l c fault (restP s at_)
 else if bt s at_ = 59 then putP at_ line l c fault 6 ⟨#[59]⟩
 else opRes s at_ line l c fault
set_option maxHeartbeats 4000000 in
set_option maxRecDepth 100000 in
theorem sc_one1 (g : Nat) (s : ByteArray) (at_ line : Int) (l : List S29) (c : List S32) (fault : Int) (w0 W : World) (h : Sc w0 W g s ⟨at_, line, l, c, fault⟩) (hl : l.length ≤ 500000) (hln : line ≤ 1000000) (hln0 : 0 ≤ line) (hc : c.length ≤ 1000000) (ha : 0 ≤ at_) (ha1 : at_ < s.size) (hs : s.size ≤ 100000) (u1 : (bt s at_ == 10) = true) :
  Calls Tryd.prog 20 #[.pointer (some ⟨g, 0, none⟩)] W fun e W' => e = .returned (.tuple #[]) ∧ Sc w0 W' g s ⟨at_ + 1, line + 1, semiL l at_ line, c, fault⟩ := by
 have q0 := h.q0
 have q1 := h.q1
 have q2 := h.q2
 have q5 := h.q5
 have f1 := h.fz 1
 have f2 := h.fz 2
 have f5 := h.fz 5
 have p6 := eq_true ha
 have q6 := eq_true ha1
 have b6 : decide (0 ≤ at_) = true := decide_eq_true ha
 have b7 : decide (at_ ≤ (s.size : Int)) = true := decide_eq_true (by omega)
 have t7 := eq_true (show at_ ≤ (s.size : Int) by omega)
 have hx := bt_at s at_
 have HH := Aside0.mk h
 clear h
 go_enter Tryd.func20, Tryd.ntmps20
 (try go_wp2)
 go_quiet (fail)
 go_wp2_with (first | (go_at_call 23; (with_reducible refine (sc_semi g s at_ line l c fault w0 _ (HH.out.drewN _) (by omega)).mono ?_); rintro e w1 ⟨rfl, h1⟩; have H1 := Aside0.mk h1; clear h1; have q1 := H1.out.q1; have q2 := H1.out.q2; have f1 := H1.out.fz 1; have f2 := H1.out.fz 2))
 first | go_end0 | ((try simp only [Exit.inBlock, Exit.then]); refine bodyPost_ret (results_none rfl _ _ _) rfl ?_)
 exact ⟨rfl, (H1.out.set1 _).set2 _⟩
set_option maxHeartbeats 4000000 in
set_option maxRecDepth 100000 in
theorem sc_one2 (g : Nat) (s : ByteArray) (at_ line : Int) (l : List S29) (c : List S32) (fault : Int) (w0 W : World) (h : Sc w0 W g s ⟨at_, line, l, c, fault⟩) (hl : l.length ≤ 500000) (hln : line ≤ 1000000) (hln0 : 0 ≤ line) (hc : c.length ≤ 1000000) (ha : 0 ≤ at_) (ha1 : at_ < s.size) (hs : s.size ≤ 100000) (u1 : (bt s at_ == 10) = false) (u2 : (bt s at_ == 32) = true) :
  Calls Tryd.prog 20 #[.pointer (some ⟨g, 0, none⟩)] W fun e W' => e = .returned (.tuple #[]) ∧ Sc w0 W' g s ⟨at_ + 1, line, l, c, fault⟩ := by
 have q0 := h.q0
 have q1 := h.q1
 have q2 := h.q2
 have q5 := h.q5
 have f1 := h.fz 1
 have f2 := h.fz 2
 have f5 := h.fz 5
 have p6 := eq_true ha
 have q6 := eq_true ha1
 have b6 : decide (0 ≤ at_) = true := decide_eq_true ha
 have b7 : decide (at_ ≤ (s.size : Int)) = true := decide_eq_true (by omega)
 have t7 := eq_true (show at_ ≤ (s.size : Int) by omega)
 have hx := bt_at s at_
 have HH := Aside0.mk h
 clear h
 go_enter Tryd.func20, Tryd.ntmps20
 (try go_wp2)
 go_quiet (fail)
 go_wp2
 first | go_end0 | ((try simp only [Exit.inBlock, Exit.then]); refine bodyPost_ret (results_none rfl _ _ _) rfl ?_)
 exact ⟨rfl, (HH.out.drewN _).set1 _⟩
set_option maxHeartbeats 4000000 in
set_option maxRecDepth 100000 in
theorem sc_one3 (g : Nat) (s : ByteArray) (at_ line : Int) (l : List S29) (c : List S32) (fault : Int) (w0 W : World) (h : Sc w0 W g s ⟨at_, line, l, c, fault⟩) (hl : l.length ≤ 500000) (hln : line ≤ 1000000) (hln0 : 0 ≤ line) (hc : c.length ≤ 1000000) (ha : 0 ≤ at_) (ha1 : at_ < s.size) (hs : s.size ≤ 100000) (u1 : (bt s at_ == 10) = false) (u2 : (bt s at_ == 32) = false) (u3 : (bt s at_ == 9) = true) :
  Calls Tryd.prog 20 #[.pointer (some ⟨g, 0, none⟩)] W fun e W' => e = .returned (.tuple #[]) ∧ Sc w0 W' g s ⟨at_ + 1, line, l, c, fault⟩ := by
 have q0 := h.q0
 have q1 := h.q1
 have q2 := h.q2
 have q5 := h.q5
 have f1 := h.fz 1
 have f2 := h.fz 2
 have f5 := h.fz 5
 have p6 := eq_true ha
 have q6 := eq_true ha1
 have b6 : decide (0 ≤ at_) = true := decide_eq_true ha
 have b7 : decide (at_ ≤ (s.size : Int)) = true := decide_eq_true (by omega)
 have t7 := eq_true (show at_ ≤ (s.size : Int) by omega)
 have hx := bt_at s at_
 have HH := Aside0.mk h
 clear h
 go_enter Tryd.func20, Tryd.ntmps20
 (try go_wp2)
 go_quiet (fail)
 go_wp2
 first | go_end0 | ((try simp only [Exit.inBlock, Exit.then]); refine bodyPost_ret (results_none rfl _ _ _) rfl ?_)
 exact ⟨rfl, (HH.out.drewN _).set1 _⟩
set_option maxHeartbeats 4000000 in
set_option maxRecDepth 100000 in
theorem sc_one5 (g : Nat) (s : ByteArray) (at_ line : Int) (l : List S29) (c : List S32) (fault : Int) (w0 W : World) (h : Sc w0 W g s ⟨at_, line, l, c, fault⟩) (hl : l.length ≤ 500000) (hln : line ≤ 1000000) (hln0 : 0 ≤ line) (hc : c.length ≤ 1000000) (ha : 0 ≤ at_) (ha1 : at_ < s.size) (hs : s.size ≤ 100000) (u1 : (bt s at_ == 10) = false) (u2 : (bt s at_ == 32) = false) (u3 : (bt s at_ == 9) = false) (us : slashP (s.extract at_.toNat s.size) = false) (ul : letterP (bt s at_) = true) :
  Calls Tryd.prog 20 #[.pointer (some ⟨g, 0, none⟩)] W fun e W' => e = .returned (.tuple #[]) ∧ Sc w0 W' g s (nameP at_ line l c fault (s.extract at_.toNat (runP wordP s s.size at_).toNat)) := by
 have HS := Aside0.mk us
 clear us
 have HLT := Aside0.mk ul
 clear ul
 have hsz : (s.extract at_.toNat (runP wordP s s.size at_).toNat).size ≤ 1000000 := by rw [ByteArray.size_extract]; omega
 have q0 := h.q0
 have q1 := h.q1
 have q2 := h.q2
 have q5 := h.q5
 have f1 := h.fz 1
 have f2 := h.fz 2
 have f5 := h.fz 5
 have p6 := eq_true ha
 have q6 := eq_true ha1
 have b6 : decide (0 ≤ at_) = true := decide_eq_true ha
 have b7 : decide (at_ ≤ (s.size : Int)) = true := decide_eq_true (by omega)
 have t7 := eq_true (show at_ ≤ (s.size : Int) by omega)
 have hx := bt_at s at_
 have HH := Aside0.mk h
 clear h
 go_enter Tryd.func20, Tryd.ntmps20
 (try go_wp2)
 go_quiet (fail)
 go_wp2
 repeat (go_quiet (first | (go_at_call 29; (with_reducible refine (slash_c (s.extract at_.toNat s.size) false HS.out _).mono ?_); rintro e w' ⟨rfl, ⟨nd, rfl⟩⟩; (try first | exact ⟨rfl, _, World.drewN_drewN _ _ _⟩ | exact ⟨rfl, _, Eq.trans (World.drewN_drewN _ _ _) (congrArg (World.drewN _) (Nat.add_assoc _ _ _))⟩)) | (go_at_call 31; (with_reducible refine (letter_c (bt s at_) true HLT.out _).mono ?_); rintro e w' ⟨rfl, ⟨nd, rfl⟩⟩; (try first | exact ⟨rfl, _, World.drewN_drewN _ _ _⟩ | exact ⟨rfl, _, Eq.trans (World.drewN_drewN _ _ _) (congrArg (World.drewN _) (Nat.add_assoc _ _ _))⟩)) | (go_at_call 33; (with_reducible refine (sc_run_word g s at_ line l c fault w0 _ (HH.out.drewN _) ha (by omega) (by omega)).mono ?_); rintro e w1 ⟨rfl, h1⟩; have H1 := Aside0.mk h1; clear h1; (try first | exact ⟨rfl, _, World.drewN_drewN _ _ _⟩ | exact ⟨rfl, _, Eq.trans (World.drewN_drewN _ _ _) (congrArg (World.drewN _) (Nat.add_assoc _ _ _))⟩)) | (go_at_call 32; (with_reducible refine (sc_name g s at_ line l c fault _ w0 _ H1.out (by omega) ha (by omega) hsz).mono ?_); rintro e w2 ⟨rfl, h2⟩; have H2 := Aside0.mk h2; clear h2; (try first | exact ⟨rfl, _, World.drewN_drewN _ _ _⟩ | exact ⟨rfl, _, Eq.trans (World.drewN_drewN _ _ _) (congrArg (World.drewN _) (Nat.add_assoc _ _ _))⟩))); try go_wp2_with (first | (go_at_call 29; (with_reducible refine (slash_c (s.extract at_.toNat s.size) false HS.out _).mono ?_); rintro e w' ⟨rfl, ⟨nd, rfl⟩⟩) | (go_at_call 31; (with_reducible refine (letter_c (bt s at_) true HLT.out _).mono ?_); rintro e w' ⟨rfl, ⟨nd, rfl⟩⟩) | (go_at_call 33; (with_reducible refine (sc_run_word g s at_ line l c fault w0 _ (HH.out.drewN _) ha (by omega) (by omega)).mono ?_); rintro e w1 ⟨rfl, h1⟩; have H1 := Aside0.mk h1; clear h1) | (go_at_call 32; (with_reducible refine (sc_name g s at_ line l c fault _ w0 _ H1.out (by omega) ha (by omega) hsz).mono ?_); rintro e w2 ⟨rfl, h2⟩; have H2 := Aside0.mk h2; clear h2)))
 first | go_end0 | ((try simp only [Exit.inBlock, Exit.then]); refine bodyPost_ret (results_none rfl _ _ _) rfl ?_)
 exact ⟨rfl, H2.out⟩
set_option maxHeartbeats 4000000 in
set_option maxRecDepth 100000 in
theorem sc_one6 (g : Nat) (s : ByteArray) (at_ line : Int) (l : List S29) (c : List S32) (fault : Int) (w0 W : World) (h : Sc w0 W g s ⟨at_, line, l, c, fault⟩) (hl : l.length ≤ 500000) (hln : line ≤ 1000000) (hln0 : 0 ≤ line) (hc : c.length ≤ 1000000) (ha : 0 ≤ at_) (ha1 : at_ < s.size) (hs : s.size ≤ 100000) (u1 : (bt s at_ == 10) = false) (u2 : (bt s at_ == 32) = false) (u3 : (bt s at_ == 9) = false) (us : slashP (s.extract at_.toNat s.size) = false) (ul : letterP (bt s at_) = false) (ud : digitP (bt s at_) = true) :
  Calls Tryd.prog 20 #[.pointer (some ⟨g, 0, none⟩)] W fun e W' => e = .returned (.tuple #[]) ∧ Sc w0 W' g s (numberP s at_ line l c fault (s.extract at_.toNat (runP digitP s s.size at_).toNat)) := by
 have HS := Aside0.mk us
 clear us
 have HLT := Aside0.mk ul
 clear ul
 have HDG := Aside0.mk ud
 clear ud
 have hsz : (s.extract at_.toNat (runP digitP s s.size at_).toNat).size ≤ 1000000 := by rw [ByteArray.size_extract]; omega
 have q0 := h.q0
 have q1 := h.q1
 have q2 := h.q2
 have q5 := h.q5
 have f1 := h.fz 1
 have f2 := h.fz 2
 have f5 := h.fz 5
 have p6 := eq_true ha
 have q6 := eq_true ha1
 have b6 : decide (0 ≤ at_) = true := decide_eq_true ha
 have b7 : decide (at_ ≤ (s.size : Int)) = true := decide_eq_true (by omega)
 have t7 := eq_true (show at_ ≤ (s.size : Int) by omega)
 have hx := bt_at s at_
 have HH := Aside0.mk h
 clear h
 go_enter Tryd.func20, Tryd.ntmps20
 (try go_wp2)
 go_quiet (fail)
 go_wp2
 repeat (go_quiet (first | (go_at_call 29; (with_reducible refine (slash_c (s.extract at_.toNat s.size) false HS.out _).mono ?_); rintro e w' ⟨rfl, ⟨nd, rfl⟩⟩; (try first | exact ⟨rfl, _, World.drewN_drewN _ _ _⟩ | exact ⟨rfl, _, Eq.trans (World.drewN_drewN _ _ _) (congrArg (World.drewN _) (Nat.add_assoc _ _ _))⟩)) | (go_at_call 31; (with_reducible refine (letter_c (bt s at_) false HLT.out _).mono ?_); rintro e w' ⟨rfl, ⟨nd, rfl⟩⟩; (try first | exact ⟨rfl, _, World.drewN_drewN _ _ _⟩ | exact ⟨rfl, _, Eq.trans (World.drewN_drewN _ _ _) (congrArg (World.drewN _) (Nat.add_assoc _ _ _))⟩)) | (go_at_call 35; (with_reducible refine (digit_c (bt s at_) true HDG.out _).mono ?_); rintro e w' ⟨rfl, ⟨nd, rfl⟩⟩; (try first | exact ⟨rfl, _, World.drewN_drewN _ _ _⟩ | exact ⟨rfl, _, Eq.trans (World.drewN_drewN _ _ _) (congrArg (World.drewN _) (Nat.add_assoc _ _ _))⟩)) | (go_at_call 33; (with_reducible refine (sc_run_digit g s at_ line l c fault w0 _ (HH.out.drewN _) ha (by omega) (by omega)).mono ?_); rintro e w1 ⟨rfl, h1⟩; have H1 := Aside0.mk h1; clear h1; (try first | exact ⟨rfl, _, World.drewN_drewN _ _ _⟩ | exact ⟨rfl, _, Eq.trans (World.drewN_drewN _ _ _) (congrArg (World.drewN _) (Nat.add_assoc _ _ _))⟩)) | (go_at_call 36; (with_reducible refine (sc_number g s at_ line l c fault _ w0 _ H1.out (by omega) ha (by omega) hsz).mono ?_); rintro e w2 ⟨rfl, h2⟩; have H2 := Aside0.mk h2; clear h2; (try first | exact ⟨rfl, _, World.drewN_drewN _ _ _⟩ | exact ⟨rfl, _, Eq.trans (World.drewN_drewN _ _ _) (congrArg (World.drewN _) (Nat.add_assoc _ _ _))⟩))); try go_wp2_with (first | (go_at_call 29; (with_reducible refine (slash_c (s.extract at_.toNat s.size) false HS.out _).mono ?_); rintro e w' ⟨rfl, ⟨nd, rfl⟩⟩) | (go_at_call 31; (with_reducible refine (letter_c (bt s at_) false HLT.out _).mono ?_); rintro e w' ⟨rfl, ⟨nd, rfl⟩⟩) | (go_at_call 35; (with_reducible refine (digit_c (bt s at_) true HDG.out _).mono ?_); rintro e w' ⟨rfl, ⟨nd, rfl⟩⟩) | (go_at_call 33; (with_reducible refine (sc_run_digit g s at_ line l c fault w0 _ (HH.out.drewN _) ha (by omega) (by omega)).mono ?_); rintro e w1 ⟨rfl, h1⟩; have H1 := Aside0.mk h1; clear h1) | (go_at_call 36; (with_reducible refine (sc_number g s at_ line l c fault _ w0 _ H1.out (by omega) ha (by omega) hsz).mono ?_); rintro e w2 ⟨rfl, h2⟩; have H2 := Aside0.mk h2; clear h2)))
 first | go_end0 | ((try simp only [Exit.inBlock, Exit.then]); refine bodyPost_ret (results_none rfl _ _ _) rfl ?_)
 exact ⟨rfl, H2.out⟩
set_option maxHeartbeats 4000000 in
set_option maxRecDepth 100000 in
theorem sc_one7 (g : Nat) (s : ByteArray) (at_ line : Int) (l : List S29) (c : List S32) (fault : Int) (w0 W : World) (h : Sc w0 W g s ⟨at_, line, l, c, fault⟩) (hl : l.length ≤ 500000) (hln : line ≤ 1000000) (hln0 : 0 ≤ line) (hc : c.length ≤ 1000000) (ha : 0 ≤ at_) (ha1 : at_ < s.size) (hs : s.size ≤ 100000) (u1 : (bt s at_ == 10) = false) (u2 : (bt s at_ == 32) = false) (u3 : (bt s at_ == 9) = false) (us : slashP (s.extract at_.toNat s.size) = false) (ul : letterP (bt s at_) = false) (ud : digitP (bt s at_) = false) (u4 : (bt s at_ == 34) = true) (hpos : 0 < (restP s at_).size) (hsz : (restP s at_).size ≤ 1000000) :
  Calls Tryd.prog 20 #[.pointer (some ⟨g, 0, none⟩)] W fun e W' => e = .returned (.tuple #[]) ∧ Sc w0 W' g s (textP at_ line l c fault (restP s at_)) := by
 have HS := Aside0.mk us
 clear us
 have HLT := Aside0.mk ul
 clear ul
 have HDG := Aside0.mk ud
 clear ud
 have q0 := h.q0
 have q1 := h.q1
 have q2 := h.q2
 have q5 := h.q5
 have f1 := h.fz 1
 have f2 := h.fz 2
 have f5 := h.fz 5
 have p6 := eq_true ha
 have q6 := eq_true ha1
 have b6 : decide (0 ≤ at_) = true := decide_eq_true ha
 have b7 : decide (at_ ≤ (s.size : Int)) = true := decide_eq_true (by omega)
 have t7 := eq_true (show at_ ≤ (s.size : Int) by omega)
 have hx := bt_at s at_
 have HH := Aside0.mk h
 clear h
 go_enter Tryd.func20, Tryd.ntmps20
 (try go_wp2)
 go_quiet (fail)
 go_wp2
 repeat (go_quiet (first | (go_at_call 29; (with_reducible refine (slash_c (s.extract at_.toNat s.size) false HS.out _).mono ?_); rintro e w' ⟨rfl, ⟨nd, rfl⟩⟩; (try first | exact ⟨rfl, _, World.drewN_drewN _ _ _⟩ | exact ⟨rfl, _, Eq.trans (World.drewN_drewN _ _ _) (congrArg (World.drewN _) (Nat.add_assoc _ _ _))⟩)) | (go_at_call 31; (with_reducible refine (letter_c (bt s at_) false HLT.out _).mono ?_); rintro e w' ⟨rfl, ⟨nd, rfl⟩⟩; (try first | exact ⟨rfl, _, World.drewN_drewN _ _ _⟩ | exact ⟨rfl, _, Eq.trans (World.drewN_drewN _ _ _) (congrArg (World.drewN _) (Nat.add_assoc _ _ _))⟩)) | (go_at_call 35; (with_reducible refine (digit_c (bt s at_) false HDG.out _).mono ?_); rintro e w' ⟨rfl, ⟨nd, rfl⟩⟩; (try first | exact ⟨rfl, _, World.drewN_drewN _ _ _⟩ | exact ⟨rfl, _, Eq.trans (World.drewN_drewN _ _ _) (congrArg (World.drewN _) (Nat.add_assoc _ _ _))⟩)) | (go_at_call 30; (with_reducible refine (sc_rest g s at_ line l c fault w0 _ (HH.out.drewN _) ha (by omega) (by omega)).mono ?_); rintro e w1 ⟨rfl, h1⟩; have H1 := Aside0.mk h1; clear h1; (try first | exact ⟨rfl, _, World.drewN_drewN _ _ _⟩ | exact ⟨rfl, _, Eq.trans (World.drewN_drewN _ _ _) (congrArg (World.drewN _) (Nat.add_assoc _ _ _))⟩)) | (go_at_call 37; (with_reducible refine (sc_text g s at_ line l c fault _ w0 _ H1.out (by omega) ha (by omega) hsz hpos).mono ?_); rintro e w2 ⟨rfl, h2⟩; have H2 := Aside0.mk h2; clear h2; (try first | exact ⟨rfl, _, World.drewN_drewN _ _ _⟩ | exact ⟨rfl, _, Eq.trans (World.drewN_drewN _ _ _) (congrArg (World.drewN _) (Nat.add_assoc _ _ _))⟩))); try go_wp2_with (first | (go_at_call 29; (with_reducible refine (slash_c (s.extract at_.toNat s.size) false HS.out _).mono ?_); rintro e w' ⟨rfl, ⟨nd, rfl⟩⟩) | (go_at_call 31; (with_reducible refine (letter_c (bt s at_) false HLT.out _).mono ?_); rintro e w' ⟨rfl, ⟨nd, rfl⟩⟩) | (go_at_call 35; (with_reducible refine (digit_c (bt s at_) false HDG.out _).mono ?_); rintro e w' ⟨rfl, ⟨nd, rfl⟩⟩) | (go_at_call 30; (with_reducible refine (sc_rest g s at_ line l c fault w0 _ (HH.out.drewN _) ha (by omega) (by omega)).mono ?_); rintro e w1 ⟨rfl, h1⟩; have H1 := Aside0.mk h1; clear h1) | (go_at_call 37; (with_reducible refine (sc_text g s at_ line l c fault _ w0 _ H1.out (by omega) ha (by omega) hsz hpos).mono ?_); rintro e w2 ⟨rfl, h2⟩; have H2 := Aside0.mk h2; clear h2)))
 first | go_end0 | ((try simp only [Exit.inBlock, Exit.then]); refine bodyPost_ret (results_none rfl _ _ _) rfl ?_)
 exact ⟨rfl, H2.out⟩
set_option maxHeartbeats 4000000 in
set_option maxRecDepth 100000 in
theorem sc_one8 (g : Nat) (s : ByteArray) (at_ line : Int) (l : List S29) (c : List S32) (fault : Int) (w0 W : World) (h : Sc w0 W g s ⟨at_, line, l, c, fault⟩) (hl : l.length ≤ 500000) (hln : line ≤ 1000000) (hln0 : 0 ≤ line) (hc : c.length ≤ 1000000) (ha : 0 ≤ at_) (ha1 : at_ < s.size) (hs : s.size ≤ 100000) (u1 : (bt s at_ == 10) = false) (u2 : (bt s at_ == 32) = false) (u3 : (bt s at_ == 9) = false) (us : slashP (s.extract at_.toNat s.size) = false) (ul : letterP (bt s at_) = false) (ud : digitP (bt s at_) = false) (u4 : (bt s at_ == 34) = false) (u5 : (bt s at_ == 59) = true) :
  Calls Tryd.prog 20 #[.pointer (some ⟨g, 0, none⟩)] W fun e W' => e = .returned (.tuple #[]) ∧ Sc w0 W' g s (putP at_ line l c fault 6 ⟨#[59]⟩) := by
 have HS := Aside0.mk us
 clear us
 have HLT := Aside0.mk ul
 clear ul
 have HDG := Aside0.mk ud
 clear ud
 have q0 := h.q0
 have q1 := h.q1
 have q2 := h.q2
 have q5 := h.q5
 have f1 := h.fz 1
 have f2 := h.fz 2
 have f5 := h.fz 5
 have p6 := eq_true ha
 have q6 := eq_true ha1
 have b6 : decide (0 ≤ at_) = true := decide_eq_true ha
 have b7 : decide (at_ ≤ (s.size : Int)) = true := decide_eq_true (by omega)
 have t7 := eq_true (show at_ ≤ (s.size : Int) by omega)
 have hx := bt_at s at_
 have HH := Aside0.mk h
 clear h
 go_enter Tryd.func20, Tryd.ntmps20
 (try go_wp2)
 go_quiet (fail)
 go_wp2
 repeat (go_quiet (first | (go_at_call 29; (with_reducible refine (slash_c (s.extract at_.toNat s.size) false HS.out _).mono ?_); rintro e w' ⟨rfl, ⟨nd, rfl⟩⟩; (try first | exact ⟨rfl, _, World.drewN_drewN _ _ _⟩ | exact ⟨rfl, _, Eq.trans (World.drewN_drewN _ _ _) (congrArg (World.drewN _) (Nat.add_assoc _ _ _))⟩)) | (go_at_call 31; (with_reducible refine (letter_c (bt s at_) false HLT.out _).mono ?_); rintro e w' ⟨rfl, ⟨nd, rfl⟩⟩; (try first | exact ⟨rfl, _, World.drewN_drewN _ _ _⟩ | exact ⟨rfl, _, Eq.trans (World.drewN_drewN _ _ _) (congrArg (World.drewN _) (Nat.add_assoc _ _ _))⟩)) | (go_at_call 35; (with_reducible refine (digit_c (bt s at_) false HDG.out _).mono ?_); rintro e w' ⟨rfl, ⟨nd, rfl⟩⟩; (try first | exact ⟨rfl, _, World.drewN_drewN _ _ _⟩ | exact ⟨rfl, _, Eq.trans (World.drewN_drewN _ _ _) (congrArg (World.drewN _) (Nat.add_assoc _ _ _))⟩)) | (go_at_call 24; (with_reducible refine (sc_put g s at_ line l c fault 6 ⟨#[59]⟩ w0 _ (HH.out.drewN _) (by omega) ha (by omega) (by decide)).mono ?_); rintro e w2 ⟨rfl, h2⟩; have H2 := Aside0.mk h2; clear h2; (try first | exact ⟨rfl, _, World.drewN_drewN _ _ _⟩ | exact ⟨rfl, _, Eq.trans (World.drewN_drewN _ _ _) (congrArg (World.drewN _) (Nat.add_assoc _ _ _))⟩))); try go_wp2_with (first | (go_at_call 29; (with_reducible refine (slash_c (s.extract at_.toNat s.size) false HS.out _).mono ?_); rintro e w' ⟨rfl, ⟨nd, rfl⟩⟩) | (go_at_call 31; (with_reducible refine (letter_c (bt s at_) false HLT.out _).mono ?_); rintro e w' ⟨rfl, ⟨nd, rfl⟩⟩) | (go_at_call 35; (with_reducible refine (digit_c (bt s at_) false HDG.out _).mono ?_); rintro e w' ⟨rfl, ⟨nd, rfl⟩⟩) | (go_at_call 24; (with_reducible refine (sc_put g s at_ line l c fault 6 ⟨#[59]⟩ w0 _ (HH.out.drewN _) (by omega) ha (by omega) (by decide)).mono ?_); rintro e w2 ⟨rfl, h2⟩; have H2 := Aside0.mk h2; clear h2)))
 first | go_end0 | ((try simp only [Exit.inBlock, Exit.then]); refine bodyPost_ret (results_none rfl _ _ _) rfl ?_)
 exact ⟨rfl, H2.out⟩
set_option maxHeartbeats 4000000 in
set_option maxRecDepth 100000 in
theorem sc_one9 (g : Nat) (s : ByteArray) (at_ line : Int) (l : List S29) (c : List S32) (fault : Int) (w0 W : World) (h : Sc w0 W g s ⟨at_, line, l, c, fault⟩) (hl : l.length ≤ 500000) (hln : line ≤ 1000000) (hln0 : 0 ≤ line) (hc : c.length ≤ 1000000) (ha : 0 ≤ at_) (ha1 : at_ < s.size) (hs : s.size ≤ 100000) (u1 : (bt s at_ == 10) = false) (u2 : (bt s at_ == 32) = false) (u3 : (bt s at_ == 9) = false) (us : slashP (s.extract at_.toNat s.size) = false) (ul : letterP (bt s at_) = false) (ud : digitP (bt s at_) = false) (u4 : (bt s at_ == 34) = false) (u5 : (bt s at_ == 59) = false) :
  Calls Tryd.prog 20 #[.pointer (some ⟨g, 0, none⟩)] W fun e W' => e = .returned (.tuple #[]) ∧ Sc w0 W' g s (opRes s at_ line l c fault) := by
 have HS := Aside0.mk us
 clear us
 have HLT := Aside0.mk ul
 clear ul
 have HDG := Aside0.mk ud
 clear ud
 have q0 := h.q0
 have q1 := h.q1
 have q2 := h.q2
 have q5 := h.q5
 have f1 := h.fz 1
 have f2 := h.fz 2
 have f5 := h.fz 5
 have p6 := eq_true ha
 have q6 := eq_true ha1
 have b6 : decide (0 ≤ at_) = true := decide_eq_true ha
 have b7 : decide (at_ ≤ (s.size : Int)) = true := decide_eq_true (by omega)
 have t7 := eq_true (show at_ ≤ (s.size : Int) by omega)
 have hx := bt_at s at_
 have HH := Aside0.mk h
 clear h
 go_enter Tryd.func20, Tryd.ntmps20
 (try go_wp2)
 go_quiet (fail)
 go_wp2
 repeat (go_quiet (first | (go_at_call 29; (with_reducible refine (slash_c (s.extract at_.toNat s.size) false HS.out _).mono ?_); rintro e w' ⟨rfl, ⟨nd, rfl⟩⟩; (try first | exact ⟨rfl, _, World.drewN_drewN _ _ _⟩ | exact ⟨rfl, _, Eq.trans (World.drewN_drewN _ _ _) (congrArg (World.drewN _) (Nat.add_assoc _ _ _))⟩)) | (go_at_call 31; (with_reducible refine (letter_c (bt s at_) false HLT.out _).mono ?_); rintro e w' ⟨rfl, ⟨nd, rfl⟩⟩; (try first | exact ⟨rfl, _, World.drewN_drewN _ _ _⟩ | exact ⟨rfl, _, Eq.trans (World.drewN_drewN _ _ _) (congrArg (World.drewN _) (Nat.add_assoc _ _ _))⟩)) | (go_at_call 35; (with_reducible refine (digit_c (bt s at_) false HDG.out _).mono ?_); rintro e w' ⟨rfl, ⟨nd, rfl⟩⟩; (try first | exact ⟨rfl, _, World.drewN_drewN _ _ _⟩ | exact ⟨rfl, _, Eq.trans (World.drewN_drewN _ _ _) (congrArg (World.drewN _) (Nat.add_assoc _ _ _))⟩)) | (go_at_call 38; (with_reducible refine (sc_op g s at_ line l c fault w0 _ (HH.out.drewN _) (by omega) ha (by omega) hs).mono ?_); rintro e w2 ⟨rfl, h2⟩; have H2 := Aside0.mk h2; clear h2; (try first | exact ⟨rfl, _, World.drewN_drewN _ _ _⟩ | exact ⟨rfl, _, Eq.trans (World.drewN_drewN _ _ _) (congrArg (World.drewN _) (Nat.add_assoc _ _ _))⟩))); try go_wp2_with (first | (go_at_call 29; (with_reducible refine (slash_c (s.extract at_.toNat s.size) false HS.out _).mono ?_); rintro e w' ⟨rfl, ⟨nd, rfl⟩⟩) | (go_at_call 31; (with_reducible refine (letter_c (bt s at_) false HLT.out _).mono ?_); rintro e w' ⟨rfl, ⟨nd, rfl⟩⟩) | (go_at_call 35; (with_reducible refine (digit_c (bt s at_) false HDG.out _).mono ?_); rintro e w' ⟨rfl, ⟨nd, rfl⟩⟩) | (go_at_call 38; (with_reducible refine (sc_op g s at_ line l c fault w0 _ (HH.out.drewN _) (by omega) ha (by omega) hs).mono ?_); rintro e w2 ⟨rfl, h2⟩; have H2 := Aside0.mk h2; clear h2)))
 first | go_end0 | ((try simp only [Exit.inBlock, Exit.then]); refine bodyPost_ret (results_none rfl _ _ _) rfl ?_)
 exact ⟨rfl, H2.out⟩
theorem semiL_le (l : List S29) (at_ line : Int) : (semiL l at_ line).length ≤ l.length + 1 := by
 unfold semiL
 split
 ·omega
 ·split
  ·simp
  ·omega
set_option maxHeartbeats 4000000 in
set_option maxRecDepth 100000 in
theorem sc_one4 (g : Nat) (s : ByteArray) (at_ line : Int) (l : List S29) (c : List S32) (fault : Int) (w0 W : World) (h : Sc w0 W g s ⟨at_, line, l, c, fault⟩) (hl : l.length ≤ 500000) (hln : line ≤ 1000000) (hln0 : 0 ≤ line) (hc : c.length ≤ 1000000) (ha : 0 ≤ at_) (ha1 : at_ < s.size) (hs : s.size ≤ 100000) (u1 : (bt s at_ == 10) = false) (u2 : (bt s at_ == 32) = false) (u3 : (bt s at_ == 9) = false) (us : slashP (s.extract at_.toNat s.size) = true) (hts : (restP s at_).size ≤ 100000) :
  Calls Tryd.prog 20 #[.pointer (some ⟨g, 0, none⟩)] W fun e W' => e = .returned (.tuple #[]) ∧ Sc w0 W' g s ⟨at_ + (restP s at_).size, line, semiL l at_ line, c ++ [⟨restP s at_, at_, line, (semiL l at_ line).length⟩], fault⟩ := by
 have hle := semiL_le l at_ line
 obtain ⟨l1, hl1⟩ : ∃ l1, semiL l at_ line = l1 := ⟨_, rfl⟩
 obtain ⟨t, ht⟩ : ∃ t, restP s at_ = t := ⟨_, rfl⟩
 rw [hl1] at hle ⊢
 rw [ht] at hts ⊢
 have HT1 := Aside0.mk hl1
 have HT2 := Aside0.mk ht
 clear hl1 ht
 have HS := Aside0.mk us
 clear us
 have q0 := h.q0
 have q1 := h.q1
 have q2 := h.q2
 have q5 := h.q5
 have f1 := h.fz 1
 have f2 := h.fz 2
 have f5 := h.fz 5
 have p6 := eq_true ha
 have q6 := eq_true ha1
 have b6 : decide (0 ≤ at_) = true := decide_eq_true ha
 have b7 : decide (at_ ≤ (s.size : Int)) = true := decide_eq_true (by omega)
 have t7 := eq_true (show at_ ≤ (s.size : Int) by omega)
 have hx := bt_at s at_
 have HH := Aside0.mk h
 clear h
 go_enter Tryd.func20, Tryd.ntmps20
 (try go_wp2)
 go_quiet (fail)
 go_wp2
 repeat (go_quiet (first | (go_at_call 29; (with_reducible refine (slash_c (s.extract at_.toNat s.size) true HS.out _).mono ?_); rintro e w' ⟨rfl, ⟨nd, rfl⟩⟩; (try first | exact ⟨rfl, _, World.drewN_drewN _ _ _⟩ | exact ⟨rfl, _, Eq.trans (World.drewN_drewN _ _ _) (congrArg (World.drewN _) (Nat.add_assoc _ _ _))⟩))); try go_wp2_with (first | (go_at_call 29; (with_reducible refine (slash_c (s.extract at_.toNat s.size) true HS.out _).mono ?_); rintro e w' ⟨rfl, ⟨nd, rfl⟩⟩)))
 go_wp2_with (first | (go_at_call 23; (with_reducible refine (sc_semi g s at_ line l c fault w0 _ (HH.out.drewN _) (by omega)).mono ?_); rintro e w1 ⟨rfl, h1⟩; rw [HT1.out] at h1; have H1 := Aside0.mk h1; clear h1) | (go_at_call 30; (with_reducible refine (sc_rest g s at_ line l1 c fault w0 _ H1.out ha (by omega) (by omega)).mono ?_); rintro e w2 ⟨he, h2⟩; rw [HT2.out] at he; subst he; have H2 := Aside0.mk h2; clear h2))
 obtain ⟨hB, hg, vl, vc, hb, hL, hC⟩ := H2.out
 simp only at hb hL hC
 obtain ⟨Al, cl, rfl⟩ := Kd.R_slice hL
 have BK0 := Aside0.mk hb
 have HL0 := Aside0.mk hL
 have HC0 := Aside0.mk hC
 have HB0 := Aside0.mk hB
 clear hb hL hC hB H2
 have BK := Aside0.mk (blk_drew BK0.out)
 have HL := Aside0.mk (Kd.R_drew HL0.out)
 have HC := Aside0.mk (Kd.R_drew HC0.out)
 have HB := Aside0.mk (below_drew1 HB0.out)
 clear BK0 HL0 HC0 HB0
 refine start_ (n := 25) (S := fun w' => w'.cell? ⟨g, 1, none⟩ = some (.int .i64 at_) ∧ w'.cell? ⟨g, 2, none⟩ = some (.int .i64 line) ∧ w'.cell? ⟨g, 3, none⟩ = some (.slice Al l1.length cl) ∧ w'.cell? ⟨g, 4, none⟩ = some (vc)) (ds := [24]) #[false, false, false, false, false, false, false, false, false, false, false, false, false, false, false, false, false, false, false, false, false, false, false, false, false] (by kernel_rfl) rfl rfl ⟨(blk_cell BK.out 1).trans rfl, (blk_cell BK.out 2).trans rfl, (blk_cell BK.out 3).trans rfl, (blk_cell BK.out 4).trans rfl⟩ (fun hHeld => ?_)
 generalize w2.drew = W1 at BK HL HC HB hHeld ⊢
 refine pure_ (i := 0) (N := some 63) (v := ?_) (a' := ?_) #[true, false, false, false, false, false, false, false, false, false, false, false, false, false, false, false, false, false, false, false, false, false, false, false, false] rfl rfl (by kernel_rfl) (fun _ _ _ h => h) (Or.inl ⟨by rfl, ?_⟩) ?_ ?_
 rotate_left
 ·intro w'
  go_simp
  with_reducible rfl
 rotate_left
 ·simp only [Act.put, List.setIfInBounds_toArray, List.set_cons_zero, List.set_cons_succ, i64_w, i32_w]
  rfl
 refine pure_ (i := 1) (N := some 64) (v := ?_) (a' := ?_) #[true, true, false, false, false, false, false, false, false, false, false, false, false, false, false, false, false, false, false, false, false, false, false, false, false] rfl rfl (by kernel_rfl) (fun _ _ _ h => h) (Or.inl ⟨by rfl, ?_⟩) ?_ ?_
 rotate_left
 ·intro w'
  go_simp
  with_reducible rfl
 rotate_left
 ·simp only [Act.put, List.setIfInBounds_toArray, List.set_cons_zero, List.set_cons_succ, i64_w, i32_w]
  rfl
 refine pure_ (i := 2) (N := some 65) (v := ?_) (a' := ?_) #[true, true, true, false, false, false, false, false, false, false, false, false, false, false, false, false, false, false, false, false, false, false, false, false, false] rfl rfl (by kernel_rfl) (fun _ _ _ h => h) (Or.inl ⟨by rfl, ?_⟩) ?_ ?_
 rotate_left
 ·intro w'
  go_simp
  with_reducible rfl
 rotate_left
 ·simp only [Act.put, List.setIfInBounds_toArray, List.set_cons_zero, List.set_cons_succ, i64_w, i32_w]
  rfl
 refine pure_ (i := 3) (N := some 66) (v := ?_) (a' := ?_) #[true, true, true, true, false, false, false, false, false, false, false, false, false, false, false, false, false, false, false, false, false, false, false, false, false] rfl rfl (by kernel_rfl) (fun _ _ _ h => h) (Or.inl ⟨by rfl, ?_⟩) ?_ ?_
 rotate_left
 ·intro w'
  go_simp
  with_reducible rfl
 rotate_left
 ·simp only [Act.put, List.setIfInBounds_toArray, List.set_cons_zero, List.set_cons_succ, i64_w, i32_w]
  rfl
 refine pure_ (i := 5) (N := some 68) (v := ?_) (a' := ?_) #[true, true, true, true, false, true, false, false, false, false, false, false, false, false, false, false, false, false, false, false, false, false, false, false, false] rfl rfl (by kernel_rfl) (fun _ _ _ h => h) (Or.inl ⟨by rfl, ?_⟩) ?_ ?_
 rotate_left
 ·intro w'
  go_simp
  with_reducible rfl
 rotate_left
 ·simp only [Act.put, List.setIfInBounds_toArray, List.set_cons_zero, List.set_cons_succ, i64_w, i32_w]
  rfl
 refine pure_ (i := 6) (N := some 69) (v := ?_) (a' := ?_) #[true, true, true, true, false, true, true, false, false, false, false, false, false, false, false, false, false, false, false, false, false, false, false, false, false] rfl rfl (by kernel_rfl) (fun _ _ _ h => h) (Or.inl ⟨by rfl, ?_⟩) ?_ ?_
 rotate_left
 ·intro w'
  go_simp
  with_reducible rfl
 rotate_left
 ·simp only [Act.put, List.setIfInBounds_toArray, List.set_cons_zero, List.set_cons_succ, i64_w, i32_w]
  rfl
 refine pure_ (i := 7) (N := some 70) (v := ?_) (a' := ?_) #[true, true, true, true, false, true, true, true, false, false, false, false, false, false, false, false, false, false, false, false, false, false, false, false, false] rfl rfl (by kernel_rfl) (fun _ _ _ h => h) (Or.inl ⟨by rfl, ?_⟩) ?_ ?_
 rotate_left
 ·intro w'
  go_simp
  with_reducible rfl
 rotate_left
 ·simp only [Act.put, List.setIfInBounds_toArray, List.set_cons_zero, List.set_cons_succ, i64_w, i32_w]
  rfl
 refine pure_ (i := 8) (N := some 71) (v := ?_) (a' := ?_) #[true, true, true, true, false, true, true, true, true, false, false, false, false, false, false, false, false, false, false, false, false, false, false, false, false] rfl rfl (by kernel_rfl) (fun _ _ _ h => h) (Or.inl ⟨by rfl, ?_⟩) ?_ ?_
 rotate_left
 ·intro w'
  go_simp
  with_reducible rfl
 rotate_left
 ·simp only [Act.put, List.setIfInBounds_toArray, List.set_cons_zero, List.set_cons_succ, i64_w, i32_w]
  rfl
 refine pure_ (i := 10) (N := some 73) (v := ?_) (a' := ?_) #[true, true, true, true, false, true, true, true, true, false, true, false, false, false, false, false, false, false, false, false, false, false, false, false, false] rfl rfl (by kernel_rfl) (fun _ _ _ h => h) (Or.inl ⟨by rfl, ?_⟩) ?_ ?_
 rotate_left
 ·intro w'
  go_simp
  with_reducible rfl
 rotate_left
 ·simp only [Act.put, List.setIfInBounds_toArray, List.set_cons_zero, List.set_cons_succ, i64_w, i32_w]
  rfl
 refine pure_ (i := 11) (N := some 74) (v := ?_) (a' := ?_) #[true, true, true, true, false, true, true, true, true, false, true, true, false, false, false, false, false, false, false, false, false, false, false, false, false] rfl rfl (by kernel_rfl) (fun _ _ _ h => h) (Or.inl ⟨by rfl, ?_⟩) ?_ ?_
 rotate_left
 ·intro w'
  go_simp
  with_reducible rfl
 rotate_left
 ·simp only [Act.put, List.setIfInBounds_toArray, List.set_cons_zero, List.set_cons_succ, i64_w, i32_w]
  rfl
 refine pure_ (i := 12) (N := some 75) (v := ?_) (a' := ?_) #[true, true, true, true, false, true, true, true, true, false, true, true, true, false, false, false, false, false, false, false, false, false, false, false, false] rfl rfl (by kernel_rfl) (fun _ _ _ h => h) (Or.inl ⟨by rfl, ?_⟩) ?_ ?_
 rotate_left
 ·intro w'
  go_simp
  with_reducible rfl
 rotate_left
 ·simp only [Act.put, List.setIfInBounds_toArray, List.set_cons_zero, List.set_cons_succ, i64_w, i32_w]
  rfl
 refine pure_ (i := 14) (N := some 77) (v := ?_) (a' := ?_) #[true, true, true, true, false, true, true, true, true, false, true, true, true, false, true, false, false, false, false, false, false, false, false, false, false] rfl rfl (by kernel_rfl) (fun _ _ _ h => h) (Or.inl ⟨by rfl, ?_⟩) ?_ ?_
 rotate_left
 ·intro w'
  go_simp
  with_reducible rfl
 rotate_left
 ·simp only [Act.put, List.setIfInBounds_toArray, List.set_cons_zero, List.set_cons_succ, i64_w, i32_w]
  rfl
 refine pure_ (i := 15) (N := some 78) (v := ?_) (a' := ?_) #[true, true, true, true, false, true, true, true, true, false, true, true, true, false, true, true, false, false, false, false, false, false, false, false, false] rfl rfl (by kernel_rfl) (fun _ _ _ h => h) (Or.inl ⟨by rfl, ?_⟩) ?_ ?_
 rotate_left
 ·intro w'
  go_simp
  with_reducible rfl
 rotate_left
 ·simp only [Act.put, List.setIfInBounds_toArray, List.set_cons_zero, List.set_cons_succ, i64_w, i32_w]
  rfl
 refine pure_ (i := 16) (N := some 79) (v := ?_) (a' := ?_) #[true, true, true, true, false, true, true, true, true, false, true, true, true, false, true, true, true, false, false, false, false, false, false, false, false] rfl rfl (by kernel_rfl) (fun _ _ _ h => h) (Or.inl ⟨by rfl, ?_⟩) ?_ ?_
 rotate_left
 ·intro w'
  go_simp
  with_reducible rfl
 rotate_left
 ·simp only [Act.put, List.setIfInBounds_toArray, List.set_cons_zero, List.set_cons_succ, i64_w, i32_w]
  rfl
 refine take_ (i := 4) (N := some 67) (v := ?_) (a' := ?_) #[true, true, true, true, true, true, true, true, true, false, true, true, true, false, true, true, true, false, false, false, false, false, false, false, false] rfl rfl (by kernel_rfl) (fun _ _ _ h => h) (Or.inl ⟨by rfl, ?_⟩) hHeld ?_ ?_
 rotate_left
 ·rintro w' ⟨s0, s1, s2, s3⟩
  go_simp
  with_reducible rfl
 rotate_left
 ·simp only [Act.put, List.setIfInBounds_toArray, List.set_cons_zero, List.set_cons_succ, i64_w, i32_w]
  rfl
 refine take_ (i := 9) (N := some 72) (v := ?_) (a' := ?_) #[true, true, true, true, true, true, true, true, true, true, true, true, true, false, true, true, true, false, false, false, false, false, false, false, false] rfl rfl (by kernel_rfl) (fun _ _ _ h => h) (Or.inl ⟨by rfl, ?_⟩) hHeld ?_ ?_
 rotate_left
 ·rintro w' ⟨s0, s1, s2, s3⟩
  go_simp
  with_reducible rfl
 rotate_left
 ·simp only [Act.put, List.setIfInBounds_toArray, List.set_cons_zero, List.set_cons_succ, i64_w, i32_w]
  rfl
 refine take_ (i := 13) (N := some 76) (v := ?_) (a' := ?_) #[true, true, true, true, true, true, true, true, true, true, true, true, true, true, true, true, true, false, false, false, false, false, false, false, false] rfl rfl (by kernel_rfl) (fun _ _ _ h => h) (Or.inl ⟨by rfl, ?_⟩) hHeld ?_ ?_
 rotate_left
 ·rintro w' ⟨s0, s1, s2, s3⟩
  go_simp
  with_reducible rfl
 rotate_left
 ·simp only [Act.put, List.setIfInBounds_toArray, List.set_cons_zero, List.set_cons_succ, i64_w, i32_w]
  rfl
 refine take_ (i := 17) (N := some 80) (v := ?_) (a' := ?_) #[true, true, true, true, true, true, true, true, true, true, true, true, true, true, true, true, true, true, false, false, false, false, false, false, false] rfl rfl (by kernel_rfl) (fun _ _ _ h => h) (Or.inl ⟨by rfl, ?_⟩) hHeld ?_ ?_
 rotate_left
 ·rintro w' ⟨s0, s1, s2, s3⟩
  go_simp
  with_reducible rfl
 rotate_left
 ·simp only [Act.put, List.setIfInBounds_toArray, List.set_cons_zero, List.set_cons_succ, i64_w, i32_w]
  rfl
 refine pure_ (i := 18) (N := some 81) (v := ?_) (a' := ?_) #[true, true, true, true, true, true, true, true, true, true, true, true, true, true, true, true, true, true, true, false, false, false, false, false, false] rfl rfl (by kernel_rfl) (fun _ _ _ h => h) (Or.inl ⟨by rfl, ?_⟩) ?_ ?_
 rotate_left
 ·intro w'
  go_simp
  with_reducible rfl
 rotate_left
 ·simp only [Act.put, List.setIfInBounds_toArray, List.set_cons_zero, List.set_cons_succ, i64_w, i32_w]
  rfl
 refine pure_ (i := 19) (N := some 82) (v := ?_) (a' := ?_) #[true, true, true, true, true, true, true, true, true, true, true, true, true, true, true, true, true, true, true, true, false, false, false, false, false] rfl rfl (by kernel_rfl) (fun _ _ _ h => h) (Or.inl ⟨by rfl, ?_⟩) ?_ ?_
 rotate_left
 ·intro w'
  go_simp
  with_reducible rfl
 rotate_left
 ·simp only [Act.put, List.setIfInBounds_toArray, List.set_cons_zero, List.set_cons_succ, i64_w, i32_w]
  rfl
 refine one_ (i := 20) (N := some 83) #[true, true, true, true, true, true, true, true, true, true, true, true, true, true, true, true, true, true, true, true, true, false, false, false, false] rfl rfl (by kernel_rfl) (by decide) (fun K hK => ?_)
 refine value_ (w1 := ?_) (v := ?_) (by rfl) rfl ?_ ?_
 rotate_left 2
 ·go_simp
  constructor
  ·rfl
  ·rfl
 refine hK.out _ _ ⟨(blk_cell (blk_alloc BK.out _) 1).trans rfl, (blk_cell (blk_alloc BK.out _) 2).trans rfl, (blk_cell (blk_alloc BK.out _) 3).trans rfl, (blk_cell (blk_alloc BK.out _) 4).trans rfl⟩ (fun hHeld => ?_)
 clear hK K
 refine norm_ (a' := ?_) ?_ ?_
 rotate_left
 ·show Act.put _ (some 83) _ = _
  simp only [Act.put, List.setIfInBounds_toArray, List.set_cons_zero, List.set_cons_succ, i64_w, i32_w]
  rfl
 refine one_ (i := 21) (N := some 84) #[true, true, true, true, true, true, true, true, true, true, true, true, true, true, true, true, true, true, true, true, true, true, false, false, false] rfl rfl (by kernel_rfl) (by decide) (fun K hK => ?_)
 refine Kd.R_append_step k32 (w0 := w0) w0.heap.size (by rfl) (.tmp 67) (.tmp 83) 25 32 (.agg #[(.string ⟨#[]⟩), (.int .i64 0), (.int .i64 0), (.int .i64 0)]) 40 rfl Tryd.underlying25 sc_info32 rfl (by decide) (by omega) vc c (⟨t, at_, line, (l1.length : Int)⟩ : S32) [.string t, .int .i64 at_, .int .i64 line, .int .i64 (l1.length : Int)] (fun _ => True) (fun _ => False) rfl rfl ?aP (fun _ hk => hk.elim) (fun _ _ => trivial) ?aO ?aB ?aS ?aL ?_
 (case aP => exact k32_mkM _ _ _ (⟨t, at_, line, (l1.length : Int)⟩ : S32))
 (case aB => exact HB.out)
 (case aO => exact HC.out)
 (case aS => exact HB.out.size)
 (case aL => omega)
 intro v1 w2 ho hb hg hat
 obtain ⟨l2, hl2⟩ : ∃ l2, c ++ [(⟨t, at_, line, (l1.length : Int)⟩ : S32)] = l2 := ⟨_, rfl⟩
 rw [hl2] at ho
 have NL := Aside0.mk hl2
 clear hl2
 have BK2 := Aside0.mk (blk_grown BK.out hg (Kd.R_ne HC.out BK.out (by decide)))
 have HL2 := Aside0.mk (Kd.R_over HL.out HC.out sc_t29a hg)
 have HC2 := Aside0.mk ho
 have HB2 := Aside0.mk hb
 obtain ⟨A1, c1, rfl⟩ := Kd.R_slice ho
 clear ho hb hg hat HL HC HB
 have o3 := blk_frozen BK2.out 4
 have c3 := (blk_cell BK2.out 4).trans rfl
 refine hK.out _ _ ⟨(blk_cell BK2.out 1).trans rfl, (blk_cell BK2.out 2).trans rfl, (blk_cell BK2.out 3).trans rfl, (blk_cell BK2.out 4).trans rfl⟩ (fun hHeld => ?_)
 clear hK K
 refine norm_ (a' := ?_) ?_ ?_
 rotate_left
 ·show Act.put _ (some 84) _ = _
  simp only [Act.put, List.setIfInBounds_toArray, List.set_cons_zero, List.set_cons_succ, i64_w, i32_w]
  rfl
 refine pure_ (i := 22) (N := some 85) (v := ?_) (a' := ?_) #[true, true, true, true, true, true, true, true, true, true, true, true, true, true, true, true, true, true, true, true, true, true, true, false, false] rfl rfl (by kernel_rfl) (fun _ _ _ h => h) (Or.inl ⟨by rfl, ?_⟩) ?_ ?_
 rotate_left
 ·intro w'
  go_simp
  with_reducible rfl
 rotate_left
 ·simp only [Act.put, List.setIfInBounds_toArray, List.set_cons_zero, List.set_cons_succ, i64_w, i32_w]
  rfl
 refine pure_ (i := 23) (N := some 86) (v := ?_) (a' := ?_) #[true, true, true, true, true, true, true, true, true, true, true, true, true, true, true, true, true, true, true, true, true, true, true, true, false] rfl rfl (by kernel_rfl) (fun _ _ _ h => h) (Or.inl ⟨by rfl, ?_⟩) ?_ ?_
 rotate_left
 ·intro w'
  go_simp
  with_reducible rfl
 rotate_left
 ·simp only [Act.put, List.setIfInBounds_toArray, List.set_cons_zero, List.set_cons_succ, i64_w, i32_w]
  rfl
 refine last_ (i := 24) (N := none) #[true, true, true, true, true, true, true, true, true, true, true, true, true, true, true, true, true, true, true, true, true, true, true, true, true] rfl rfl (by kernel_rfl) (by decide) (fun K hK => ?_)
 refine skip_ (w1 := ?_) ?_ ?_ ?_ ?_
 rotate_left
 ·rfl
 ·rfl
 ·go_simp
  rfl
 refine hK.out _ _ ?_
 clear hK K
 refine done_ (by kernel_rfl) ?_
 
 have p1 := (blk_cell BK2.out 1).trans rfl
 have p1f := blk_frozen BK2.out 1
 go_wp2
 first | go_end0 | ((try simp only [Exit.inBlock, Exit.then]); refine bodyPost_ret (results_none rfl _ _ _) rfl ?_)
 have B3 := blk_put (cs' := #[.string s, .int .i64 at_, .int .i64 line, .slice Al l1.length cl, .slice A1 l2.length c1, .int .i64 fault]) BK2.out 4 (.slice A1 l2.length c1) rfl
 rw [NL.out]
 refine ⟨rfl, below_set (below_set HB2.out hg) hg, hg, _, _, blk_put B3 1 _ rfl, Kd.R_set (Kd.R_set HL2.out BK2.out sc_t29 4 _) B3 sc_t29 1 _, Kd.R_set (Kd.R_set HC2.out BK2.out sc_t32 4 _) B3 sc_t32 1 _⟩
theorem lineP_le (t : ByteArray) : (lineP t).size ≤ t.size := by
 unfold lineP
 split
 ·rw [ByteArray.size_extract]; omega
 ·omega
theorem restP_le (s : ByteArray) (i : Int) : (restP s i).size ≤ s.size := by
 have := lineP_le (s.extract i.toNat s.size)
 rw [ByteArray.size_extract] at this
 unfold restP; omega
theorem extract_head (s : ByteArray) (i : Int) (h0 : 0 ≤ i) (h1 : i < s.size) : ∃ b r, (s.extract i.toNat s.size).data.toList = b :: r ∧ (b.toNat : Int) = bt s i := by
 have hn : i.toNat < s.size := by omega
 have hl : (s.extract i.toNat s.size).data.toList = (s.data.toList.drop i.toNat) := by simp [List.take_of_length_le]
 have hlen : i.toNat < s.data.toList.length := by simpa using hn
 refine ⟨s.data.toList[i.toNat], s.data.toList.drop (i.toNat + 1), by rw [hl, List.drop_eq_getElem_cons hlen], ?_⟩
 rw [← bt_at s i hn]; rfl
theorem restP_pos (s : ByteArray) (i : Int) (h0 : 0 ≤ i) (h1 : i < s.size) (h : bt s i ≠ 10) : 0 < (restP s i).size := by
 obtain ⟨b, r, he, hb⟩ := extract_head s i h0 h1
 have hsz : (s.extract i.toNat s.size).size = s.size - i.toNat := by rw [ByteArray.size_extract]; omega
 have h10 : (b == 10) = false := by
  rw [beq_eq_false_iff_ne]; rintro rfl; exact h hb.symm
 unfold restP lineP
 rw [he]
 have hge := Lib.indexByte_ge r 10
 have e : Lib.indexByte (b :: r) 10 = if Lib.indexByte r 10 == -1 then -1 else Lib.indexByte r 10 + 1 := by rw [Lib.indexByte, if_neg (by rw [h10]; decide)]
 by_cases hr : Lib.indexByte r 10 = -1
 ·have e2 : Lib.indexByte (b :: r) 10 = -1 := by rw [e, if_pos (beq_iff_eq.2 hr)]
  rw [if_neg (by rw [e2]; decide)]; omega
 ·have e2 : Lib.indexByte (b :: r) 10 = Lib.indexByte r 10 + 1 := by rw [e, if_neg (by simpa using hr)]
  rw [if_pos (by omega), ByteArray.size_extract]; omega
theorem sc_one (g : Nat) (s : ByteArray) (at_ line : Int) (l : List S29) (c : List S32) (fault : Int) (w0 W : World) (h : Sc w0 W g s ⟨at_, line, l, c, fault⟩) (hl : l.length ≤ 500000) (hln : line ≤ 1000000) (hln0 : 0 ≤ line) (hc : c.length ≤ 1000000) (ha : 0 ≤ at_) (ha1 : at_ < s.size) (hs : s.size ≤ 100000) :
  Calls Tryd.prog 20 #[.pointer (some ⟨g, 0, none⟩)] W fun e W' => e = .returned (.tuple #[]) ∧ Sc w0 W' g s (oneP s at_ line l c fault) := by
 unfold oneP
 by_cases a1 : bt s at_ = 10
 ·rw [if_pos a1]; exact sc_one1 g s at_ line l c fault w0 W h hl hln hln0 hc ha ha1 hs (by simpa using a1)
 rw [if_neg a1]
 have u1 : (bt s at_ == 10) = false := by simpa using a1
 by_cases a2 : bt s at_ = 32
 ·rw [if_pos (.inl a2)]; exact sc_one2 g s at_ line l c fault w0 W h hl hln hln0 hc ha ha1 hs u1 (by simpa using a2)
 have u2 : (bt s at_ == 32) = false := by simpa using a2
 by_cases a3 : bt s at_ = 9
 ·rw [if_pos (.inr a3)]; exact sc_one3 g s at_ line l c fault w0 W h hl hln hln0 hc ha ha1 hs u1 u2 (by simpa using a3)
 have u3 : (bt s at_ == 9) = false := by simpa using a3
 rw [if_neg (by rintro (e | e); exact a2 e; exact a3 e)]
 have hts := restP_le s at_
 cases us : slashP (s.extract at_.toNat s.size) with
 | true => rw [if_pos rfl]; exact sc_one4 g s at_ line l c fault w0 W h hl hln hln0 hc ha ha1 hs u1 u2 u3 us (by omega)
 | false =>
  rw [if_neg (by decide)]
  cases ul : letterP (bt s at_) with
  | true => rw [if_pos rfl]; exact sc_one5 g s at_ line l c fault w0 W h hl hln hln0 hc ha ha1 hs u1 u2 u3 us ul
  | false =>
   rw [if_neg (by decide)]
   cases ud : digitP (bt s at_) with
   | true => rw [if_pos rfl]; exact sc_one6 g s at_ line l c fault w0 W h hl hln hln0 hc ha ha1 hs u1 u2 u3 us ul ud
   | false =>
    rw [if_neg (by decide)]
    by_cases a4 : bt s at_ = 34
    ·rw [if_pos a4]; exact sc_one7 g s at_ line l c fault w0 W h hl hln hln0 hc ha ha1 hs u1 u2 u3 us ul ud (by simpa using a4) (restP_pos s at_ ha ha1 a1) (by omega)
    rw [if_neg a4]
    have u4 : (bt s at_ == 34) = false := by simpa using a4
    by_cases a5 : bt s at_ = 59
    ·rw [if_pos a5]; exact sc_one8 g s at_ line l c fault w0 W h hl hln hln0 hc ha ha1 hs u1 u2 u3 us ul ud u4 (by simpa using a5)
    ·rw [if_neg a5]; exact sc_one9 g s at_ line l c fault w0 W h hl hln hln0 hc ha ha1 hs u1 u2 u3 us ul ud u4 (by simpa using a5)

/-! ### scan_scanner_least: function 21 -/
def leastF (fault a : Int) : Int := if a ≥ 0 then (if fault < 0 then a else if a < fault then a else fault) else fault
set_option maxHeartbeats 4000000 in
set_option maxRecDepth 100000 in
theorem sc_least (g : Nat) (s : ByteArray) (at_ line : Int) (l : List S29) (c : List S32) (fault : Int) (a : Int) (w0 W : World) (h : Sc w0 W g s ⟨at_, line, l, c, fault⟩) :
  Calls Tryd.prog 21 #[.pointer (some ⟨g, 0, none⟩), .int .i64 a] W fun e W' => e = .returned (.tuple #[]) ∧ Sc w0 W' g s ⟨at_, line, l, c, leastF fault a⟩ := by
 have q0 := h.q0
 have q1 := h.q1
 have q2 := h.q2
 have q5 := h.q5
 have f1 := h.fz 1
 have f2 := h.fz 2
 have f5 := h.fz 5
 have HH := Aside0.mk h
 clear h
 unfold leastF
 by_cases t1 : a ≥ 0
 ·rw [if_pos t1]
  have b1 : decide (0 ≤ a) = true := decide_eq_true t1
  by_cases t2 : fault < 0
  ·rw [if_pos t2]
   have b2 : decide (fault < 0) = true := decide_eq_true t2
   clear t1 t2
   go_enter Tryd.func21, Tryd.ntmps21
   go_wp2
   first | go_end0 | ((try simp only [Exit.inBlock, Exit.then]); refine bodyPost_ret (results_none rfl _ _ _) rfl ?_)
   exact ⟨rfl, HH.out.set5 a⟩
  ·rw [if_neg t2]
   have b2 : decide (fault < 0) = false := decide_eq_false t2
   by_cases t3 : a < fault
   ·rw [if_pos t3]
    have b3 : decide (a < fault) = true := decide_eq_true t3
    clear t1 t2 t3
    go_enter Tryd.func21, Tryd.ntmps21
    go_wp2
    first | go_end0 | ((try simp only [Exit.inBlock, Exit.then]); refine bodyPost_ret (results_none rfl _ _ _) rfl ?_)
    exact ⟨rfl, HH.out.set5 a⟩
   ·rw [if_neg t3]
    have b3 : decide (a < fault) = false := decide_eq_false t3
    clear t1 t2 t3
    go_enter Tryd.func21, Tryd.ntmps21
    go_wp2
    first | go_end0 | ((try simp only [Exit.inBlock, Exit.then]); refine bodyPost_ret (results_none rfl _ _ _) rfl ?_)
    exact ⟨rfl, HH.out⟩
 ·rw [if_neg t1]
  have b1 : decide (0 ≤ a) = false := decide_eq_false t1
  clear t1
  go_enter Tryd.func21, Tryd.ntmps21
  go_wp2
  first | go_end0 | ((try simp only [Exit.inBlock, Exit.then]); refine bodyPost_ret (results_none rfl _ _ _) rfl ?_)
  exact ⟨rfl, HH.out⟩

-- NOT PRINTED: function 49 (utf8_decodeRuneInStringSlow)

-- NOT PRINTED: function 39 (utf8_DecodeRuneInString)

/-! ### utf_Fault: function 22 -/
def utf_Fault.f (a0 : ByteArray) : Option (Int) := some (faults a0 a0.size 0)
set_option maxHeartbeats 2000000 in
set_option maxRecDepth 100000 in
theorem utf_Fault.walk_ (s : ByteArray) (w : World) (hT : Tabs w) :
  Calls Tryd.prog 22 #[.string s] w fun e w' => e = .returned (.int .i64 (faults s s.size 0)) ∧ Below w.heap.size w w' := by
 have HT := Lib.hid hT
 clear hT
 go_enter Tryd.func22, Tryd.ntmps22
 go_wp2
 go_loopw [3, 4] (fun _ _ wr => ∃ (pos fuel : Nat), wr.heap[w.heap.size]? = some (.stringIter s pos) ∧ Below w.heap.size w wr ∧ faults s fuel pos = faults s s.size 0 ∧ s.size ≤ pos + fuel) (fun _ _ wr => s.size - wr.iterPos w.heap.size)
 case atStart =>
  exact ⟨0, s.size, World.iter_heap w s 0, (Below.refl _ w).alloc (Nat.le_refl _) _, rfl, by omega⟩
 case round =>
  obtain ⟨pos, fuel, hit, hbw, hacc, hfu⟩ := hrel
  by_cases hp : pos < s.size
  ·have hnx : ∀ ty, (Instr.next (.pointer (some ⟨w.heap.size, 0, none⟩)) true ty).run Tryd.prog wr = _ := fun ty => Lib.run_next_any_at wr w.heap.size s pos ty hit hp
   have hwd := decode_pos s pos hp
   have hit2 := Lib.iterAt_heap wr w.heap.size s pos (pos + (Utf8.decode s pos).2) hit
   have hbw2 := Lib.below_iterAt hbw (k := w.heap.size) (by omega) s (pos + (Utf8.decode s pos).2)
   have hle := decode_le s pos
   obtain ⟨f, rfl⟩ : ∃ f, fuel = f + 1 := ⟨fuel - 1, by omega⟩
   obtain ⟨r, hr⟩ : ∃ r, (Utf8.decode s pos).1 = r := ⟨_, rfl⟩
   simp only [faults, hp, if_true, hr] at hacc
   rw [hr] at hnx hle
   have HA := Lib.hid hacc
   clear hacc hr
   obtain ⟨R, hR⟩ : ∃ R, (Lib.decodeGo (s.extract pos s.size)).1 = R := ⟨_, rfl⟩
   obtain ⟨K, hK⟩ : ∃ K, (Lib.decodeGo (s.extract pos s.size)).2 = K := ⟨_, rfl⟩
   have HC := Lib.hid (fun W hT => Tryd.utf8_DecodeRuneInString (s.extract pos s.size) W hT)
   rw [hR, hK] at HC
   rw [hK] at HA
   clear hR hK
   have HB := Lib.hid hbw2
   clear hbw2
   have HI := Lib.hid hit2
   clear hit2
   go_wp2_with (go_at_call 39; refine (HC.out _ (tabs_at HT.out HB.out)).mono ?_; rintro e w9 ⟨rfl, hb⟩; have HB9 := Lib.hid (HB.out.trans (hb.mono (by rw [Lib.iterAt_size]; have := (Array.getElem?_eq_some_iff.1 hit).1; omega))); have HI9 := Lib.hid ((hb.block w.heap.size (by rw [Lib.iterAt_size]; exact (Array.getElem?_eq_some_iff.1 hit).1)).trans HI.out); clear hb)
   all_goals first
    | (go_ret; have hc : ((r < 32 ∧ r ≠ 9 ∧ r ≠ 10) ∨ r = 127) ∨ (r = 65533 ∧ K = 1) := (by simp only [beq_iff_eq, beq_eq_false_iff_ne, ne_eq] at *; omega); exact ⟨congrArg (fun z => Ending.returned (.int .i64 z)) (fault_hit HA.out hc), by first | exact HB9.out | exact HB.out⟩)
    | (have hc : ¬ (((r < 32 ∧ r ≠ 9 ∧ r ≠ 10) ∨ r = 127) ∨ (r = 65533 ∧ K = 1)) := (by simp only [beq_iff_eq, beq_eq_false_iff_ne, ne_eq] at *; omega); go_roundw; (case rel => exact ⟨pos + (Utf8.decode s pos).2, f, by first | exact HI9.out | exact HI.out, by first | exact HB9.out | exact HB.out, fault_miss HA.out hc, by omega⟩); (case measure => first | (simp only [World.iterPos, HI9.out, hit]; omega) | (simp only [World.iterPos, HI.out, hit]; omega)))
  ·have hnx : ∀ ty, (Instr.next (.pointer (some ⟨w.heap.size, 0, none⟩)) true ty).run Tryd.prog wr = _ := fun ty => Lib.run_next_end_at wr w.heap.size s pos ty hit hp
   rw [faults_end s fuel pos hp] at hacc
   have HA := Lib.hid hacc
   clear hacc
   go_wp2
   go_ret
   exact ⟨congrArg (fun z => Ending.returned (.int .i64 z)) HA.out, hbw⟩
theorem utf_Fault.calls (a0 : ByteArray) (r : Int) (w : World) (hT : Aside0 (Tabs w)) (h : utf_Fault.f a0 = some r) :
  Calls Tryd.prog 22 #[.string a0] w fun e w' => e = .returned (.int .i64 r) ∧ Below w.heap.size w w' := by
 obtain rfl := Option.some.inj h
 exact utf_Fault.walk_ a0 w hT.out

end Go.Proofs.YtohhnblaoihgbaaDoor.PScanCovers
