-- Written by myprint.py (the prover's own turn of the printer); not trusted: Lean checks it.
import Derived.Test.YtohhnblaoihgbaaDoorPScanx0
import Derived.Test.YtohhnblaoihgbaaDoorPScanx1
import Derived.Test.YtohhnblaoihgbaaDoorPScanx4
import Derived.Test.YtohhnblaoihgbaaDoorPScanx5
import Derived.Test.YtohhnblaoihgbaaDoorPScanx6
import Derived.Test.YtohhnblaoihgbaaDoorPScanx10
import Derived.Test.YtohhnblaoihgbaaDoorPScanx11
import Derived.Test.YtohhnblaoihgbaaDoorPScanx12
import Derived.Test.YtohhnblaoihgbaaDoorPScanx13
namespace Go.Proofs.YtohhnblaoihgbaaDoor.PScan
open Go.RowKit Go.Proofs.YtohhnblaoihgbaaDoorW.PrintWords Go.Proofs.YtohhnblaoihgbaaDoorW.PrintLast Go.Proofs.YtohhnblaoihgbaaDoorW.PrintMore
attribute [local go_sem] str_leq op_leq op_gtr op_geq max2_int min2_int max_two min_two max_three min_three max_four min_four   -- for this text's walks alone
set_option linter.unusedVariables false
set_option linter.unusedSimpArgs false

/-! ### recensionref1_scanner_one: function 42 -/
theorem rkey_f (t : ByteArray) : recensionref1_Key.f 30 t = some (keyP t) := by
 unfold recensionref1_Key.f keyP
 rw [in_m 30 t _ keyL (by decide +kernel) (by decide) (by decide)]; rfl
theorem rkey_c (t : ByteArray) (b : Bool) (hb : keyP t = b) (w : World) : Calls Tryd.prog 57 #[.string t] w fun e w' => e = .returned (.bool b) ∧ Below w.heap.size w w' := recensionref1_Key.calls 30 t b w ((rkey_f t).trans (congrArg some hb))
theorem rop_f (t : ByteArray) : recensionref1_Op.f 30 t = some (opP t) := by
 unfold recensionref1_Op.f opP
 rw [in_m 30 t _ opL (by decide +kernel) (by decide) (by decide)]; rfl
theorem rop_c (t : ByteArray) (b : Bool) (hb : opP t = b) (w : World) : Calls Tryd.prog 58 #[.string t] w fun e w' => e = .returned (.bool b) ∧ Below w.heap.size w w' := recensionref1_Op.calls 30 t b w ((rop_f t).trans (congrArg some hb))
def strB (b : Int) : Bool := b != 34 && b != 10
def strBad (s : ByteArray) (e : Int) : Prop := e = s.size ∨ bt s e = 10
instance (s : ByteArray) (e : Int) : Decidable (strBad s e) := by unfold strBad; exact inferInstance
def rnumBad (s : ByteArray) (at_ e : Int) : Prop := e - at_ > 12 ∨ (e - at_ > 1 ∧ bt s at_ = 48) ∨ (e < s.size ∧ letterP (bt s e) = true)
instance (s : ByteArray) (at_ e : Int) : Decidable (rnumBad s at_ e) := by unfold rnumBad; exact inferInstance
def oneR (s : ByteArray) (at_ line : Int) (l : List S29) (c : List S32) : Bool × RSt :=
 if bt s at_ = 32 ∨ bt s at_ = 9 then (true, ⟨at_ + 1, line, l, c⟩)
 else if bt s at_ = 10 then (true, ⟨at_ + 1, line + 1, semiL l at_ line, c⟩)
 else if bt s at_ = 59 then (true, addP s at_ line l c 6 (at_ + 1))
 else if bt s at_ = 47 then (if isCom s at_ then (true, comYes s at_ line l c (runP notNl s s.size at_)) else (false, ⟨at_, line, l, c⟩))
 else if bt s at_ = 34 then (if strBad s (runP strB s s.size (at_ + 1)) then (false, ⟨at_, line, l, c⟩) else (true, addP s at_ line l c 3 (runP strB s s.size (at_ + 1) + 1)))
 else if digitP (bt s at_) = true then (if rnumBad s at_ (runP digitP s s.size at_) then (false, ⟨at_, line, l, c⟩) else (true, addP s at_ line l c 2 (runP digitP s s.size at_)))
 else if letterP (bt s at_) = true then (if runP wordP s s.size at_ - at_ > 24 then (false, ⟨at_, line, l, c⟩) else (true, addP s at_ line l c (if keyP (s.extract at_.toNat (runP wordP s s.size at_).toNat) = true then 5 else 1) (runP wordP s s.size at_)))
 else if opOk s at_ 2 then (true, addP s at_ line l c 4 (at_ + 2)) else if opOk s at_ 1 then (true, addP s at_ line l c 4 (at_ + 1)) else (false, ⟨at_, line, l, c⟩)
set_option maxHeartbeats 4000000 in
set_option maxRecDepth 100000 in
theorem rc_one1 (g : Nat) (s : ByteArray) (at_ line : Int) (l : List S29) (c : List S32) (w0 W : World) (h : Rc w0 W g s ⟨at_, line, l, c⟩) (hl : l.length ≤ 500000) (hln : line ≤ 1000000) (hln0 : 0 ≤ line) (hc : c.length ≤ 1000000) (ha : 0 ≤ at_) (ha1 : at_ < s.size) (hs : s.size ≤ 100000) (u32 : (bt s at_ == 32) = true) :
  Calls Tryd.prog 42 #[.pointer (some ⟨g, 0, none⟩)] W fun e W' => e = .returned (.bool true) ∧ Rc w0 W' g s ⟨at_ + 1, line, l, c⟩ := by
 have q0 := h.q0
 have q1 := h.q1
 have q2 := h.q2
 have f1 := h.fz 1
 have f2 := h.fz 2
 have p6 := eq_true ha
 have q6 := eq_true ha1
 have b6 : decide (0 ≤ at_) = true := decide_eq_true ha
 have b7 : decide (at_ ≤ (s.size : Int)) = true := decide_eq_true (by omega)
 have t7 := eq_true (show at_ ≤ (s.size : Int) by omega)
 have hx := bt_at s at_
 have HH := Aside0.mk h
 clear h
 go_enter Tryd.func42, Tryd.ntmps42
 (try go_wp2)
 go_quiet (fail)
 go_wp2
 go_ret
 exact ⟨rfl, (HH.out.drewN _).set1 _⟩
set_option maxHeartbeats 4000000 in
set_option maxRecDepth 100000 in
theorem rc_one2 (g : Nat) (s : ByteArray) (at_ line : Int) (l : List S29) (c : List S32) (w0 W : World) (h : Rc w0 W g s ⟨at_, line, l, c⟩) (hl : l.length ≤ 500000) (hln : line ≤ 1000000) (hln0 : 0 ≤ line) (hc : c.length ≤ 1000000) (ha : 0 ≤ at_) (ha1 : at_ < s.size) (hs : s.size ≤ 100000) (u32 : (bt s at_ == 32) = false) (u9 : (bt s at_ == 9) = true) :
  Calls Tryd.prog 42 #[.pointer (some ⟨g, 0, none⟩)] W fun e W' => e = .returned (.bool true) ∧ Rc w0 W' g s ⟨at_ + 1, line, l, c⟩ := by
 have q0 := h.q0
 have q1 := h.q1
 have q2 := h.q2
 have f1 := h.fz 1
 have f2 := h.fz 2
 have p6 := eq_true ha
 have q6 := eq_true ha1
 have b6 : decide (0 ≤ at_) = true := decide_eq_true ha
 have b7 : decide (at_ ≤ (s.size : Int)) = true := decide_eq_true (by omega)
 have t7 := eq_true (show at_ ≤ (s.size : Int) by omega)
 have hx := bt_at s at_
 have HH := Aside0.mk h
 clear h
 go_enter Tryd.func42, Tryd.ntmps42
 (try go_wp2)
 go_quiet (fail)
 go_wp2
 go_ret
 exact ⟨rfl, (HH.out.drewN _).set1 _⟩
set_option maxHeartbeats 4000000 in
set_option maxRecDepth 100000 in
theorem rc_one3 (g : Nat) (s : ByteArray) (at_ line : Int) (l : List S29) (c : List S32) (w0 W : World) (h : Rc w0 W g s ⟨at_, line, l, c⟩) (hl : l.length ≤ 500000) (hln : line ≤ 1000000) (hln0 : 0 ≤ line) (hc : c.length ≤ 1000000) (ha : 0 ≤ at_) (ha1 : at_ < s.size) (hs : s.size ≤ 100000) (u32 : (bt s at_ == 32) = false) (u9 : (bt s at_ == 9) = false) (u10 : (bt s at_ == 10) = true) :
  Calls Tryd.prog 42 #[.pointer (some ⟨g, 0, none⟩)] W fun e W' => e = .returned (.bool true) ∧ Rc w0 W' g s ⟨at_ + 1, line + 1, semiL l at_ line, c⟩ := by
 have q0 := h.q0
 have q1 := h.q1
 have q2 := h.q2
 have f1 := h.fz 1
 have f2 := h.fz 2
 have p6 := eq_true ha
 have q6 := eq_true ha1
 have b6 : decide (0 ≤ at_) = true := decide_eq_true ha
 have b7 : decide (at_ ≤ (s.size : Int)) = true := decide_eq_true (by omega)
 have t7 := eq_true (show at_ ≤ (s.size : Int) by omega)
 have hx := bt_at s at_
 have HH := Aside0.mk h
 clear h
 go_enter Tryd.func42, Tryd.ntmps42
 (try go_wp2)
 go_quiet (fail)
 go_wp2_with (first | (go_at_call 43; (with_reducible refine (rc_semi g s at_ line l c w0 _ (HH.out.drewN _) (by omega)).mono ?_); rintro e w1 ⟨rfl, h1⟩; have H1 := Aside0.mk h1; clear h1; have q1 := H1.out.q1; have q2 := H1.out.q2; have f1 := H1.out.fz 1; have f2 := H1.out.fz 2))
 go_ret
 exact ⟨rfl, (H1.out.set1 _).set2 _⟩
set_option maxHeartbeats 4000000 in
set_option maxRecDepth 100000 in
theorem rc_one4 (g : Nat) (s : ByteArray) (at_ line : Int) (l : List S29) (c : List S32) (w0 W : World) (h : Rc w0 W g s ⟨at_, line, l, c⟩) (hl : l.length ≤ 500000) (hln : line ≤ 1000000) (hln0 : 0 ≤ line) (hc : c.length ≤ 1000000) (ha : 0 ≤ at_) (ha1 : at_ < s.size) (hs : s.size ≤ 100000) (u32 : (bt s at_ == 32) = false) (u9 : (bt s at_ == 9) = false) (u10 : (bt s at_ == 10) = false) (u59 : (bt s at_ == 59) = true) :
  Calls Tryd.prog 42 #[.pointer (some ⟨g, 0, none⟩)] W fun e W' => e = .returned (.bool true) ∧ Rc w0 W' g s (addP s at_ line l c 6 (at_ + 1)) := by
 have e1 : IntKind.i64.wrap (at_ + 1) = at_ + 1 := IntWalk.i64_in _ (by omega)
 have q0 := h.q0
 have q1 := h.q1
 have q2 := h.q2
 have f1 := h.fz 1
 have f2 := h.fz 2
 have p6 := eq_true ha
 have q6 := eq_true ha1
 have b6 : decide (0 ≤ at_) = true := decide_eq_true ha
 have b7 : decide (at_ ≤ (s.size : Int)) = true := decide_eq_true (by omega)
 have t7 := eq_true (show at_ ≤ (s.size : Int) by omega)
 have hx := bt_at s at_
 have HH := Aside0.mk h
 clear h
 go_enter Tryd.func42, Tryd.ntmps42
 (try go_wp2)
 go_quiet (fail)
 go_wp2_with (first | (go_at_call 52; (with_reducible refine (rc_add g s at_ line l c 6 (at_ + 1) w0 _ (HH.out.drewN _) (by omega) ha (by omega) (by omega)).mono ?_); rintro e w2 ⟨rfl, h2⟩; have H2 := Aside0.mk h2; clear h2))
 go_ret
 exact ⟨rfl, H2.out⟩
set_option maxHeartbeats 4000000 in
set_option maxRecDepth 100000 in
theorem rc_one5 (g : Nat) (s : ByteArray) (at_ line : Int) (l : List S29) (c : List S32) (w0 W : World) (h : Rc w0 W g s ⟨at_, line, l, c⟩) (hl : l.length ≤ 500000) (hln : line ≤ 1000000) (hln0 : 0 ≤ line) (hc : c.length ≤ 1000000) (ha : 0 ≤ at_) (ha1 : at_ < s.size) (hs : s.size ≤ 100000) (u32 : (bt s at_ == 32) = false) (u9 : (bt s at_ == 9) = false) (u10 : (bt s at_ == 10) = false) (u59 : (bt s at_ == 59) = false) (u47 : (bt s at_ == 47) = true) (k2 : ¬ (at_ + 1 < s.size)) :
  Calls Tryd.prog 42 #[.pointer (some ⟨g, 0, none⟩)] W fun e W' => e = .returned (.bool false) ∧ Rc w0 W' g s ⟨at_, line, l, c⟩ := by
 have K2 := Aside0.mk k2
 clear k2
 have q0 := h.q0
 have q1 := h.q1
 have q2 := h.q2
 have f1 := h.fz 1
 have f2 := h.fz 2
 have p6 := eq_true ha
 have q6 := eq_true ha1
 have b6 : decide (0 ≤ at_) = true := decide_eq_true ha
 have b7 : decide (at_ ≤ (s.size : Int)) = true := decide_eq_true (by omega)
 have t7 := eq_true (show at_ ≤ (s.size : Int) by omega)
 have hx := bt_at s at_
 have HH := Aside0.mk h
 clear h
 go_enter Tryd.func42, Tryd.ntmps42
 (try go_wp2)
 go_quiet (fail)
 go_wp2_with (first | (go_at_call 53; (with_reducible refine (rc_com0 g s at_ line l c w0 _ (HH.out.drewN _) hl hln hln0 hc ha ha1 hs (by have := K2.out; omega)).mono ?_); rintro e w2 ⟨rfl, h2⟩; have H2 := Aside0.mk h2; clear h2))
 go_ret
 exact ⟨rfl, H2.out⟩
set_option maxHeartbeats 4000000 in
set_option maxRecDepth 100000 in
theorem rc_one6 (g : Nat) (s : ByteArray) (at_ line : Int) (l : List S29) (c : List S32) (w0 W : World) (h : Rc w0 W g s ⟨at_, line, l, c⟩) (hl : l.length ≤ 500000) (hln : line ≤ 1000000) (hln0 : 0 ≤ line) (hc : c.length ≤ 1000000) (ha : 0 ≤ at_) (ha1 : at_ < s.size) (hs : s.size ≤ 100000) (u32 : (bt s at_ == 32) = false) (u9 : (bt s at_ == 9) = false) (u10 : (bt s at_ == 10) = false) (u59 : (bt s at_ == 59) = false) (u47 : (bt s at_ == 47) = true) (k2 : at_ + 1 < s.size) (k3 : ¬ bt s (at_ + 1) = 47) :
  Calls Tryd.prog 42 #[.pointer (some ⟨g, 0, none⟩)] W fun e W' => e = .returned (.bool false) ∧ Rc w0 W' g s ⟨at_, line, l, c⟩ := by
 have K2 := Aside0.mk k2
 have K3 := Aside0.mk k3
 clear k2 k3
 have q0 := h.q0
 have q1 := h.q1
 have q2 := h.q2
 have f1 := h.fz 1
 have f2 := h.fz 2
 have p6 := eq_true ha
 have q6 := eq_true ha1
 have b6 : decide (0 ≤ at_) = true := decide_eq_true ha
 have b7 : decide (at_ ≤ (s.size : Int)) = true := decide_eq_true (by omega)
 have t7 := eq_true (show at_ ≤ (s.size : Int) by omega)
 have hx := bt_at s at_
 have HH := Aside0.mk h
 clear h
 go_enter Tryd.func42, Tryd.ntmps42
 (try go_wp2)
 go_quiet (fail)
 go_wp2_with (first | (go_at_call 53; (with_reducible refine (rc_com1 g s at_ line l c w0 _ (HH.out.drewN _) hl hln hln0 hc ha ha1 hs K2.out K3.out).mono ?_); rintro e w2 ⟨rfl, h2⟩; have H2 := Aside0.mk h2; clear h2))
 go_ret
 exact ⟨rfl, H2.out⟩
set_option maxHeartbeats 4000000 in
set_option maxRecDepth 100000 in
theorem rc_one7 (g : Nat) (s : ByteArray) (at_ line : Int) (l : List S29) (c : List S32) (w0 W : World) (h : Rc w0 W g s ⟨at_, line, l, c⟩) (hl : l.length ≤ 500000) (hln : line ≤ 1000000) (hln0 : 0 ≤ line) (hc : c.length ≤ 1000000) (ha : 0 ≤ at_) (ha1 : at_ < s.size) (hs : s.size ≤ 100000) (u32 : (bt s at_ == 32) = false) (u9 : (bt s at_ == 9) = false) (u10 : (bt s at_ == 10) = false) (u59 : (bt s at_ == 59) = false) (u47 : (bt s at_ == 47) = true) (k2 : at_ + 1 < s.size) (k3 : bt s (at_ + 1) = 47) :
  Calls Tryd.prog 42 #[.pointer (some ⟨g, 0, none⟩)] W fun e W' => e = .returned (.bool true) ∧ Rc w0 W' g s (comYes s at_ line l c (runP notNl s s.size at_)) := by
 have K2 := Aside0.mk k2
 have K3 := Aside0.mk k3
 clear k2 k3
 have q0 := h.q0
 have q1 := h.q1
 have q2 := h.q2
 have f1 := h.fz 1
 have f2 := h.fz 2
 have p6 := eq_true ha
 have q6 := eq_true ha1
 have b6 : decide (0 ≤ at_) = true := decide_eq_true ha
 have b7 : decide (at_ ≤ (s.size : Int)) = true := decide_eq_true (by omega)
 have t7 := eq_true (show at_ ≤ (s.size : Int) by omega)
 have hx := bt_at s at_
 have HH := Aside0.mk h
 clear h
 go_enter Tryd.func42, Tryd.ntmps42
 (try go_wp2)
 go_quiet (fail)
 go_wp2_with (first | (go_at_call 53; (with_reducible refine (rc_com2 g s at_ line l c w0 _ (HH.out.drewN _) hl hln hln0 hc ha ha1 hs K2.out K3.out).mono ?_); rintro e w2 ⟨rfl, h2⟩; have H2 := Aside0.mk h2; clear h2))
 go_ret
 exact ⟨rfl, H2.out⟩
set_option maxHeartbeats 4000000 in
set_option maxRecDepth 100000 in
theorem rc_one8 (g : Nat) (s : ByteArray) (at_ line : Int) (l : List S29) (c : List S32) (w0 W : World) (h : Rc w0 W g s ⟨at_, line, l, c⟩) (hl : l.length ≤ 500000) (hln : line ≤ 1000000) (hln0 : 0 ≤ line) (hc : c.length ≤ 1000000) (ha : 0 ≤ at_) (ha1 : at_ < s.size) (hs : s.size ≤ 100000) (u32 : (bt s at_ == 32) = false) (u9 : (bt s at_ == 9) = false) (u10 : (bt s at_ == 10) = false) (u59 : (bt s at_ == 59) = false) (u47 : (bt s at_ == 47) = false) (u34 : (bt s at_ == 34) = true) (b : Bool) (x : RSt) (hres : (if strBad s (runP strB s s.size (at_ + 1)) then (false, (⟨at_, line, l, c⟩ : RSt)) else (true, addP s at_ line l c 3 (runP strB s s.size (at_ + 1) + 1))) = (b, x)) :
  Calls Tryd.prog 42 #[.pointer (some ⟨g, 0, none⟩)] W fun e W' => e = .returned (.bool b) ∧ Rc w0 W' g s x := by
 obtain ⟨R, hR⟩ : ∃ R, runP strB s s.size (at_ + 1) = R := ⟨_, rfl⟩
 rw [hR] at hres
 have HR := Aside0.mk hR
 have HS := Aside0.mk hres
 clear hR hres
 have q0 := h.q0
 have q1 := h.q1
 have q2 := h.q2
 have f1 := h.fz 1
 have f2 := h.fz 2
 have p6 := eq_true ha
 have q6 := eq_true ha1
 have b6 : decide (0 ≤ at_) = true := decide_eq_true ha
 have b7 : decide (at_ ≤ (s.size : Int)) = true := decide_eq_true (by omega)
 have t7 := eq_true (show at_ ≤ (s.size : Int) by omega)
 have hx := bt_at s at_
 have e1 : IntKind.i64.wrap (at_ + 1) = at_ + 1 := IntWalk.i64_in _ (by omega)
 have HH := Aside0.mk h
 clear h
 go_enter Tryd.func42, Tryd.ntmps42
 (try go_wp2)
 go_quiet (fail)
 go_wp2
 clear e1 p6 q6 b6 b7 t7 hx q0 q1 q2 f1 f2 u32 u9 u10 u59 u47 u34
 go_loopw [4] (fun e wr => ∃ (y : Int) (n : Nat), e = .int .i64 y ∧ at_ < y ∧ y ≤ s.size ∧ Aside0 (runP strB s n y = R ∧ (s.size : Int) ≤ y + n) ∧ Aside0 (Rc w0 wr g s ⟨at_, line, l, c⟩)) (fun e _ => s.size - (intOf e).toNat)
 case atStart => exact ⟨at_ + 1, s.size, rfl, by omega, by omega, ⟨HR.out, by omega⟩, ⟨HH.out.drewN _⟩⟩
 case round =>
  clear HR HH
  obtain ⟨y, n, rfl, ya, yl, HR, HH⟩ := hrel
  have q0 := HH.out.q0
  have q1 := HH.out.q1
  by_cases hlt : y < (s.size : Int)
  ·have b1 : decide (y < (s.size : Int)) = true := decide_eq_true hlt
   have b9 : (y == (s.size : Int)) = false := by simpa using (show ¬ y = (s.size : Int) by omega)
   have p6 := eq_true (show 0 ≤ y by omega)
   have q6 := eq_true hlt
   have hx := bt_at s y
   obtain ⟨m, hm⟩ : ∃ m, n = m + 1 := ⟨n - 1, by have := HR.out.2; omega⟩
   by_cases h34 : bt s y = 34
   ·have u1 : (bt s y != 34) = false := by simpa using h34
    have u3 : (bt s y == 10) = false := by simp [h34]
    have HN : Aside0 (y = R) := ⟨by have := HR.out.1; rw [runP_no _ _ _ _ (by unfold strB; rw [u1]; rfl)] at this; exact this⟩
    obtain rfl := HN.out
    have HX : Aside0 ((true, addP s at_ line l c 3 (y + 1)) = (b, x)) := ⟨by have := HS.out; rw [if_neg (show ¬ strBad s y from by rintro (e | e); exact absurd e (by omega); rw [h34] at e; exact absurd e (by decide))] at this; exact this⟩
    have e2 : IntKind.i64.wrap (y + 1) = y + 1 := IntWalk.i64_in _ (by omega)
    clear h34 hm HR HN HS
    go_wp2_with (go_at_call 52; (with_reducible refine (rc_add g s at_ line l c 3 (y + 1) w0 _ HH.out (by omega) ha (by omega) (by omega)).mono ?_); rintro e w2 ⟨rfl, h2⟩; have H2 := Aside0.mk h2; clear h2)
    go_ret
    obtain ⟨rfl, rfl⟩ := Prod.mk.inj HX.out
    exact ⟨rfl, H2.out⟩
   ·have u1 : (bt s y != 34) = true := by simpa using h34
    by_cases h10 : bt s y = 10
    ·have u2 : (bt s y != 10) = false := by simpa using h10
     have u3 : (bt s y == 10) = true := by simpa using h10
     have HN : Aside0 (y = R) := ⟨by have := HR.out.1; rw [runP_no _ _ _ _ (by unfold strB; rw [u2]; simp)] at this; exact this⟩
     obtain rfl := HN.out
     have HX : Aside0 ((false, (⟨at_, line, l, c⟩ : RSt)) = (b, x)) := ⟨by have := HS.out; rw [if_pos (show strBad s y from .inr h10)] at this; exact this⟩
     clear h34 h10 hm HR HN HS
     go_wp2
     go_ret
     obtain ⟨rfl, rfl⟩ := Prod.mk.inj HX.out
     exact ⟨rfl, HH.out⟩
    ·have u2 : (bt s y != 10) = true := by simpa using h10
     have HN : Aside0 (runP strB s m (y + 1) = R ∧ (s.size : Int) ≤ y + 1 + m) := ⟨by have := HR.out.1; rw [hm, runP_yes _ _ _ _ hlt (by unfold strB; rw [u1, u2]; rfl)] at this; exact this, by have := HR.out.2; omega⟩
     clear h34 h10 hm HR
     go_wp2
     go_roundw
     case rel => exact ⟨y + 1, m, rfl, by omega, by omega, HN, HH⟩
     case measure => simp [intOf]; omega
  ·have b1 : decide (y < (s.size : Int)) = false := decide_eq_false hlt
   have he : y = (s.size : Int) := by omega
   have b9 : (y == (s.size : Int)) = true := by simpa using he
   have HN : Aside0 (y = R) := ⟨by have := HR.out.1; rw [runP_end _ _ _ _ hlt] at this; exact this⟩
   obtain rfl := HN.out
   have HX : Aside0 ((false, (⟨at_, line, l, c⟩ : RSt)) = (b, x)) := ⟨by have := HS.out; rw [if_pos (show strBad s y from .inl he)] at this; exact this⟩
   clear he HR HN HS
   go_wp2
   go_ret
   obtain ⟨rfl, rfl⟩ := Prod.mk.inj HX.out
   exact ⟨rfl, HH.out⟩
set_option maxHeartbeats 4000000 in
set_option maxRecDepth 100000 in
theorem rc_num1 (g : Nat) (s : ByteArray) (at_ line : Int) (l : List S29) (c : List S32) (R : Int) (w0 W : World) (h : Rc w0 W g s ⟨at_, line, l, c⟩) (hl : l.length ≤ 500000) (hln : line ≤ 1000000) (hln0 : 0 ≤ line) (hc : c.length ≤ 1000000) (ha : 0 ≤ at_) (ha1 : at_ < s.size) (hs : s.size ≤ 100000) (u32 : (bt s at_ == 32) = false) (u9 : (bt s at_ == 9) = false) (u10 : (bt s at_ == 10) = false) (u59 : (bt s at_ == 59) = false) (u47 : (bt s at_ == 47) = false) (u34 : (bt s at_ == 34) = false) (ud : digitP (bt s at_) = true) (hR : runP digitP s s.size at_ = R) (r0 : at_ ≤ R) (r1 : R ≤ s.size) (k1 : R - at_ > 12) :
  Calls Tryd.prog 42 #[.pointer (some ⟨g, 0, none⟩)] W fun e W' => e = .returned (.bool false) ∧ Rc w0 W' g s ⟨at_, line, l, c⟩ := by
 have HDG := Aside0.mk ud
 clear ud
 have HR := Aside0.mk hR
 clear hR
 have b11 : decide ((12 : Int) < R - at_) = true := decide_eq_true (by omega)
 have q0 := h.q0
 have q1 := h.q1
 have q2 := h.q2
 have f1 := h.fz 1
 have f2 := h.fz 2
 have p6 := eq_true ha
 have q6 := eq_true ha1
 have b6 : decide (0 ≤ at_) = true := decide_eq_true ha
 have b7 : decide (at_ ≤ (s.size : Int)) = true := decide_eq_true (by omega)
 have t7 := eq_true (show at_ ≤ (s.size : Int) by omega)
 have hx := bt_at s at_
 have e1 : IntKind.i64.wrap (R - at_) = R - at_ := IntWalk.i64_in _ (by omega)
 have HH := Aside0.mk h
 clear h
 go_enter Tryd.func42, Tryd.ntmps42
 (try go_wp2)
 go_quiet (fail)
 go_wp2_with (first | (go_at_call 54; (with_reducible refine (rdigit_c (bt s at_) true HDG.out _).mono ?_); rintro e w' ⟨rfl, ⟨nd, rfl⟩⟩; have q1 := (HH.out.drewN nd).q1) | (go_at_call 55; (with_reducible refine (rc_to_digit g s at_ line l c w0 _ (HH.out.drewN _) ha (by omega) (by omega)).mono ?_); rintro e w1 ⟨he, h1⟩; rw [HR.out] at he; subst he; have H1 := Aside0.mk h1; clear h1; have q1 := H1.out.q1; have q0 := H1.out.q0))
 go_ret
 exact ⟨rfl, by repeat (first | exact H1.out | apply Rc.drewN | apply Rc.drew)⟩
set_option maxHeartbeats 4000000 in
set_option maxRecDepth 100000 in
theorem rc_num2 (g : Nat) (s : ByteArray) (at_ line : Int) (l : List S29) (c : List S32) (R : Int) (w0 W : World) (h : Rc w0 W g s ⟨at_, line, l, c⟩) (hl : l.length ≤ 500000) (hln : line ≤ 1000000) (hln0 : 0 ≤ line) (hc : c.length ≤ 1000000) (ha : 0 ≤ at_) (ha1 : at_ < s.size) (hs : s.size ≤ 100000) (u32 : (bt s at_ == 32) = false) (u9 : (bt s at_ == 9) = false) (u10 : (bt s at_ == 10) = false) (u59 : (bt s at_ == 59) = false) (u47 : (bt s at_ == 47) = false) (u34 : (bt s at_ == 34) = false) (ud : digitP (bt s at_) = true) (hR : runP digitP s s.size at_ = R) (r0 : at_ ≤ R) (r1 : R ≤ s.size) (k1 : ¬ R - at_ > 12) (k2 : R - at_ > 1) (u48 : (bt s at_ == 48) = true) :
  Calls Tryd.prog 42 #[.pointer (some ⟨g, 0, none⟩)] W fun e W' => e = .returned (.bool false) ∧ Rc w0 W' g s ⟨at_, line, l, c⟩ := by
 have HDG := Aside0.mk ud
 clear ud
 have HR := Aside0.mk hR
 clear hR
 have b11 : decide ((12 : Int) < R - at_) = false := decide_eq_false (by omega)
 have b12 : decide ((1 : Int) < R - at_) = true := decide_eq_true (by omega)
 have q0 := h.q0
 have q1 := h.q1
 have q2 := h.q2
 have f1 := h.fz 1
 have f2 := h.fz 2
 have p6 := eq_true ha
 have q6 := eq_true ha1
 have b6 : decide (0 ≤ at_) = true := decide_eq_true ha
 have b7 : decide (at_ ≤ (s.size : Int)) = true := decide_eq_true (by omega)
 have t7 := eq_true (show at_ ≤ (s.size : Int) by omega)
 have hx := bt_at s at_
 have e1 : IntKind.i64.wrap (R - at_) = R - at_ := IntWalk.i64_in _ (by omega)
 have HH := Aside0.mk h
 clear h
 go_enter Tryd.func42, Tryd.ntmps42
 (try go_wp2)
 go_quiet (fail)
 go_wp2_with (first | (go_at_call 54; (with_reducible refine (rdigit_c (bt s at_) true HDG.out _).mono ?_); rintro e w' ⟨rfl, ⟨nd, rfl⟩⟩; have q1 := (HH.out.drewN nd).q1) | (go_at_call 55; (with_reducible refine (rc_to_digit g s at_ line l c w0 _ (HH.out.drewN _) ha (by omega) (by omega)).mono ?_); rintro e w1 ⟨he, h1⟩; rw [HR.out] at he; subst he; have H1 := Aside0.mk h1; clear h1; have q1 := H1.out.q1; have q0 := H1.out.q0))
 go_ret
 exact ⟨rfl, by repeat (first | exact H1.out | apply Rc.drewN | apply Rc.drew)⟩
set_option maxHeartbeats 4000000 in
set_option maxRecDepth 100000 in
theorem rc_num3a (g : Nat) (s : ByteArray) (at_ line : Int) (l : List S29) (c : List S32) (R : Int) (w0 W : World) (h : Rc w0 W g s ⟨at_, line, l, c⟩) (hl : l.length ≤ 500000) (hln : line ≤ 1000000) (hln0 : 0 ≤ line) (hc : c.length ≤ 1000000) (ha : 0 ≤ at_) (ha1 : at_ < s.size) (hs : s.size ≤ 100000) (u32 : (bt s at_ == 32) = false) (u9 : (bt s at_ == 9) = false) (u10 : (bt s at_ == 10) = false) (u59 : (bt s at_ == 59) = false) (u47 : (bt s at_ == 47) = false) (u34 : (bt s at_ == 34) = false) (ud : digitP (bt s at_) = true) (hR : runP digitP s s.size at_ = R) (r0 : at_ ≤ R) (r1 : R ≤ s.size) (k1 : ¬ R - at_ > 12) (k2 : R - at_ > 1) (u48 : (bt s at_ == 48) = false) (k3 : R < s.size) (ulr : letterP (bt s R) = true) :
  Calls Tryd.prog 42 #[.pointer (some ⟨g, 0, none⟩)] W fun e W' => e = .returned (.bool false) ∧ Rc w0 W' g s ⟨at_, line, l, c⟩ := by
 have HDG := Aside0.mk ud
 clear ud
 have HR := Aside0.mk hR
 clear hR
 have b11 : decide ((12 : Int) < R - at_) = false := decide_eq_false (by omega)
 have b12 : decide ((1 : Int) < R - at_) = true := decide_eq_true (by omega)
 have b13 : decide (R < (s.size : Int)) = true := decide_eq_true (by omega)
 have p7 := eq_true (show 0 ≤ R by omega)
 have q7 := eq_true (show R < (s.size : Int) by omega)
 have hy := bt_at s R
 have HLR := Aside0.mk ulr
 clear ulr
 have q0 := h.q0
 have q1 := h.q1
 have q2 := h.q2
 have f1 := h.fz 1
 have f2 := h.fz 2
 have p6 := eq_true ha
 have q6 := eq_true ha1
 have b6 : decide (0 ≤ at_) = true := decide_eq_true ha
 have b7 : decide (at_ ≤ (s.size : Int)) = true := decide_eq_true (by omega)
 have t7 := eq_true (show at_ ≤ (s.size : Int) by omega)
 have hx := bt_at s at_
 have e1 : IntKind.i64.wrap (R - at_) = R - at_ := IntWalk.i64_in _ (by omega)
 have HH := Aside0.mk h
 clear h
 go_enter Tryd.func42, Tryd.ntmps42
 (try go_wp2)
 go_quiet (fail)
 go_wp2_with (first | (go_at_call 54; (with_reducible refine (rdigit_c (bt s at_) true HDG.out _).mono ?_); rintro e w' ⟨rfl, ⟨nd, rfl⟩⟩; have q1 := (HH.out.drewN nd).q1) | (go_at_call 55; (with_reducible refine (rc_to_digit g s at_ line l c w0 _ (HH.out.drewN _) ha (by omega) (by omega)).mono ?_); rintro e w1 ⟨he, h1⟩; rw [HR.out] at he; subst he; have H1 := Aside0.mk h1; clear h1; have q1 := H1.out.q1; have q0 := H1.out.q0) | (go_at_call 56; (with_reducible refine (rletter_c (bt s R) true HLR.out _).mono ?_); rintro e w' ⟨rfl, ⟨nd, rfl⟩⟩))
 go_ret
 exact ⟨rfl, by repeat (first | exact H1.out | apply Rc.drewN | apply Rc.drew)⟩
set_option maxHeartbeats 4000000 in
set_option maxRecDepth 100000 in
theorem rc_num4a (g : Nat) (s : ByteArray) (at_ line : Int) (l : List S29) (c : List S32) (R : Int) (w0 W : World) (h : Rc w0 W g s ⟨at_, line, l, c⟩) (hl : l.length ≤ 500000) (hln : line ≤ 1000000) (hln0 : 0 ≤ line) (hc : c.length ≤ 1000000) (ha : 0 ≤ at_) (ha1 : at_ < s.size) (hs : s.size ≤ 100000) (u32 : (bt s at_ == 32) = false) (u9 : (bt s at_ == 9) = false) (u10 : (bt s at_ == 10) = false) (u59 : (bt s at_ == 59) = false) (u47 : (bt s at_ == 47) = false) (u34 : (bt s at_ == 34) = false) (ud : digitP (bt s at_) = true) (hR : runP digitP s s.size at_ = R) (r0 : at_ ≤ R) (r1 : R ≤ s.size) (k1 : ¬ R - at_ > 12) (k2 : R - at_ > 1) (u48 : (bt s at_ == 48) = false) (k3 : R < s.size) (ulr : letterP (bt s R) = false) :
  Calls Tryd.prog 42 #[.pointer (some ⟨g, 0, none⟩)] W fun e W' => e = .returned (.bool true) ∧ Rc w0 W' g s (addP s at_ line l c 2 R) := by
 have HDG := Aside0.mk ud
 clear ud
 have HR := Aside0.mk hR
 clear hR
 have b11 : decide ((12 : Int) < R - at_) = false := decide_eq_false (by omega)
 have b12 : decide ((1 : Int) < R - at_) = true := decide_eq_true (by omega)
 have b13 : decide (R < (s.size : Int)) = true := decide_eq_true (by omega)
 have p7 := eq_true (show 0 ≤ R by omega)
 have q7 := eq_true (show R < (s.size : Int) by omega)
 have hy := bt_at s R
 have HLR := Aside0.mk ulr
 clear ulr
 have q0 := h.q0
 have q1 := h.q1
 have q2 := h.q2
 have f1 := h.fz 1
 have f2 := h.fz 2
 have p6 := eq_true ha
 have q6 := eq_true ha1
 have b6 : decide (0 ≤ at_) = true := decide_eq_true ha
 have b7 : decide (at_ ≤ (s.size : Int)) = true := decide_eq_true (by omega)
 have t7 := eq_true (show at_ ≤ (s.size : Int) by omega)
 have hx := bt_at s at_
 have e1 : IntKind.i64.wrap (R - at_) = R - at_ := IntWalk.i64_in _ (by omega)
 have HH := Aside0.mk h
 clear h
 go_enter Tryd.func42, Tryd.ntmps42
 (try go_wp2)
 go_quiet (fail)
 go_wp2_with (first | (go_at_call 54; (with_reducible refine (rdigit_c (bt s at_) true HDG.out _).mono ?_); rintro e w' ⟨rfl, ⟨nd, rfl⟩⟩; have q1 := (HH.out.drewN nd).q1) | (go_at_call 55; (with_reducible refine (rc_to_digit g s at_ line l c w0 _ (HH.out.drewN _) ha (by omega) (by omega)).mono ?_); rintro e w1 ⟨he, h1⟩; rw [HR.out] at he; subst he; have H1 := Aside0.mk h1; clear h1; have q1 := H1.out.q1; have q0 := H1.out.q0) | (go_at_call 56; (with_reducible refine (rletter_c (bt s R) false HLR.out _).mono ?_); rintro e w' ⟨rfl, ⟨nd, rfl⟩⟩) | (go_at_call 52; (with_reducible refine (rc_add g s at_ line l c 2 (R) w0 _ (H1.out.drewN _) (by omega) ha (by omega) (by omega)).mono ?_); rintro e w2 ⟨rfl, h2⟩; have H2 := Aside0.mk h2; clear h2))
 go_ret
 exact ⟨rfl, by repeat (first | exact H2.out | apply Rc.drewN | apply Rc.drew)⟩
set_option maxHeartbeats 4000000 in
set_option maxRecDepth 100000 in
theorem rc_num5a (g : Nat) (s : ByteArray) (at_ line : Int) (l : List S29) (c : List S32) (R : Int) (w0 W : World) (h : Rc w0 W g s ⟨at_, line, l, c⟩) (hl : l.length ≤ 500000) (hln : line ≤ 1000000) (hln0 : 0 ≤ line) (hc : c.length ≤ 1000000) (ha : 0 ≤ at_) (ha1 : at_ < s.size) (hs : s.size ≤ 100000) (u32 : (bt s at_ == 32) = false) (u9 : (bt s at_ == 9) = false) (u10 : (bt s at_ == 10) = false) (u59 : (bt s at_ == 59) = false) (u47 : (bt s at_ == 47) = false) (u34 : (bt s at_ == 34) = false) (ud : digitP (bt s at_) = true) (hR : runP digitP s s.size at_ = R) (r0 : at_ ≤ R) (r1 : R ≤ s.size) (k1 : ¬ R - at_ > 12) (k2 : R - at_ > 1) (u48 : (bt s at_ == 48) = false) (k3 : ¬ R < s.size) :
  Calls Tryd.prog 42 #[.pointer (some ⟨g, 0, none⟩)] W fun e W' => e = .returned (.bool true) ∧ Rc w0 W' g s (addP s at_ line l c 2 R) := by
 have HDG := Aside0.mk ud
 clear ud
 have HR := Aside0.mk hR
 clear hR
 have b11 : decide ((12 : Int) < R - at_) = false := decide_eq_false (by omega)
 have b12 : decide ((1 : Int) < R - at_) = true := decide_eq_true (by omega)
 have b13 : decide (R < (s.size : Int)) = false := decide_eq_false (by omega)
 have q0 := h.q0
 have q1 := h.q1
 have q2 := h.q2
 have f1 := h.fz 1
 have f2 := h.fz 2
 have p6 := eq_true ha
 have q6 := eq_true ha1
 have b6 : decide (0 ≤ at_) = true := decide_eq_true ha
 have b7 : decide (at_ ≤ (s.size : Int)) = true := decide_eq_true (by omega)
 have t7 := eq_true (show at_ ≤ (s.size : Int) by omega)
 have hx := bt_at s at_
 have e1 : IntKind.i64.wrap (R - at_) = R - at_ := IntWalk.i64_in _ (by omega)
 have HH := Aside0.mk h
 clear h
 go_enter Tryd.func42, Tryd.ntmps42
 (try go_wp2)
 go_quiet (fail)
 go_wp2_with (first | (go_at_call 54; (with_reducible refine (rdigit_c (bt s at_) true HDG.out _).mono ?_); rintro e w' ⟨rfl, ⟨nd, rfl⟩⟩; have q1 := (HH.out.drewN nd).q1) | (go_at_call 55; (with_reducible refine (rc_to_digit g s at_ line l c w0 _ (HH.out.drewN _) ha (by omega) (by omega)).mono ?_); rintro e w1 ⟨he, h1⟩; rw [HR.out] at he; subst he; have H1 := Aside0.mk h1; clear h1; have q1 := H1.out.q1; have q0 := H1.out.q0) | (go_at_call 52; (with_reducible refine (rc_add g s at_ line l c 2 (R) w0 _ H1.out (by omega) ha (by omega) (by omega)).mono ?_); rintro e w2 ⟨rfl, h2⟩; have H2 := Aside0.mk h2; clear h2))
 go_ret
 exact ⟨rfl, by repeat (first | exact H2.out | apply Rc.drewN | apply Rc.drew)⟩
set_option maxHeartbeats 4000000 in
set_option maxRecDepth 100000 in
theorem rc_num3b (g : Nat) (s : ByteArray) (at_ line : Int) (l : List S29) (c : List S32) (R : Int) (w0 W : World) (h : Rc w0 W g s ⟨at_, line, l, c⟩) (hl : l.length ≤ 500000) (hln : line ≤ 1000000) (hln0 : 0 ≤ line) (hc : c.length ≤ 1000000) (ha : 0 ≤ at_) (ha1 : at_ < s.size) (hs : s.size ≤ 100000) (u32 : (bt s at_ == 32) = false) (u9 : (bt s at_ == 9) = false) (u10 : (bt s at_ == 10) = false) (u59 : (bt s at_ == 59) = false) (u47 : (bt s at_ == 47) = false) (u34 : (bt s at_ == 34) = false) (ud : digitP (bt s at_) = true) (hR : runP digitP s s.size at_ = R) (r0 : at_ ≤ R) (r1 : R ≤ s.size) (k1 : ¬ R - at_ > 12) (k2 : ¬ R - at_ > 1) (k3 : R < s.size) (ulr : letterP (bt s R) = true) :
  Calls Tryd.prog 42 #[.pointer (some ⟨g, 0, none⟩)] W fun e W' => e = .returned (.bool false) ∧ Rc w0 W' g s ⟨at_, line, l, c⟩ := by
 have HDG := Aside0.mk ud
 clear ud
 have HR := Aside0.mk hR
 clear hR
 have b11 : decide ((12 : Int) < R - at_) = false := decide_eq_false (by omega)
 have b12 : decide ((1 : Int) < R - at_) = false := decide_eq_false (by omega)
 have b13 : decide (R < (s.size : Int)) = true := decide_eq_true (by omega)
 have p7 := eq_true (show 0 ≤ R by omega)
 have q7 := eq_true (show R < (s.size : Int) by omega)
 have hy := bt_at s R
 have HLR := Aside0.mk ulr
 clear ulr
 have q0 := h.q0
 have q1 := h.q1
 have q2 := h.q2
 have f1 := h.fz 1
 have f2 := h.fz 2
 have p6 := eq_true ha
 have q6 := eq_true ha1
 have b6 : decide (0 ≤ at_) = true := decide_eq_true ha
 have b7 : decide (at_ ≤ (s.size : Int)) = true := decide_eq_true (by omega)
 have t7 := eq_true (show at_ ≤ (s.size : Int) by omega)
 have hx := bt_at s at_
 have e1 : IntKind.i64.wrap (R - at_) = R - at_ := IntWalk.i64_in _ (by omega)
 have HH := Aside0.mk h
 clear h
 go_enter Tryd.func42, Tryd.ntmps42
 (try go_wp2)
 go_quiet (fail)
 go_wp2_with (first | (go_at_call 54; (with_reducible refine (rdigit_c (bt s at_) true HDG.out _).mono ?_); rintro e w' ⟨rfl, ⟨nd, rfl⟩⟩; have q1 := (HH.out.drewN nd).q1) | (go_at_call 55; (with_reducible refine (rc_to_digit g s at_ line l c w0 _ (HH.out.drewN _) ha (by omega) (by omega)).mono ?_); rintro e w1 ⟨he, h1⟩; rw [HR.out] at he; subst he; have H1 := Aside0.mk h1; clear h1; have q1 := H1.out.q1; have q0 := H1.out.q0) | (go_at_call 56; (with_reducible refine (rletter_c (bt s R) true HLR.out _).mono ?_); rintro e w' ⟨rfl, ⟨nd, rfl⟩⟩))
 go_ret
 exact ⟨rfl, by repeat (first | exact H1.out | apply Rc.drewN | apply Rc.drew)⟩
set_option maxHeartbeats 4000000 in
set_option maxRecDepth 100000 in
theorem rc_num4b (g : Nat) (s : ByteArray) (at_ line : Int) (l : List S29) (c : List S32) (R : Int) (w0 W : World) (h : Rc w0 W g s ⟨at_, line, l, c⟩) (hl : l.length ≤ 500000) (hln : line ≤ 1000000) (hln0 : 0 ≤ line) (hc : c.length ≤ 1000000) (ha : 0 ≤ at_) (ha1 : at_ < s.size) (hs : s.size ≤ 100000) (u32 : (bt s at_ == 32) = false) (u9 : (bt s at_ == 9) = false) (u10 : (bt s at_ == 10) = false) (u59 : (bt s at_ == 59) = false) (u47 : (bt s at_ == 47) = false) (u34 : (bt s at_ == 34) = false) (ud : digitP (bt s at_) = true) (hR : runP digitP s s.size at_ = R) (r0 : at_ ≤ R) (r1 : R ≤ s.size) (k1 : ¬ R - at_ > 12) (k2 : ¬ R - at_ > 1) (k3 : R < s.size) (ulr : letterP (bt s R) = false) :
  Calls Tryd.prog 42 #[.pointer (some ⟨g, 0, none⟩)] W fun e W' => e = .returned (.bool true) ∧ Rc w0 W' g s (addP s at_ line l c 2 R) := by
 have HDG := Aside0.mk ud
 clear ud
 have HR := Aside0.mk hR
 clear hR
 have b11 : decide ((12 : Int) < R - at_) = false := decide_eq_false (by omega)
 have b12 : decide ((1 : Int) < R - at_) = false := decide_eq_false (by omega)
 have b13 : decide (R < (s.size : Int)) = true := decide_eq_true (by omega)
 have p7 := eq_true (show 0 ≤ R by omega)
 have q7 := eq_true (show R < (s.size : Int) by omega)
 have hy := bt_at s R
 have HLR := Aside0.mk ulr
 clear ulr
 have q0 := h.q0
 have q1 := h.q1
 have q2 := h.q2
 have f1 := h.fz 1
 have f2 := h.fz 2
 have p6 := eq_true ha
 have q6 := eq_true ha1
 have b6 : decide (0 ≤ at_) = true := decide_eq_true ha
 have b7 : decide (at_ ≤ (s.size : Int)) = true := decide_eq_true (by omega)
 have t7 := eq_true (show at_ ≤ (s.size : Int) by omega)
 have hx := bt_at s at_
 have e1 : IntKind.i64.wrap (R - at_) = R - at_ := IntWalk.i64_in _ (by omega)
 have HH := Aside0.mk h
 clear h
 go_enter Tryd.func42, Tryd.ntmps42
 (try go_wp2)
 go_quiet (fail)
 go_wp2_with (first | (go_at_call 54; (with_reducible refine (rdigit_c (bt s at_) true HDG.out _).mono ?_); rintro e w' ⟨rfl, ⟨nd, rfl⟩⟩; have q1 := (HH.out.drewN nd).q1) | (go_at_call 55; (with_reducible refine (rc_to_digit g s at_ line l c w0 _ (HH.out.drewN _) ha (by omega) (by omega)).mono ?_); rintro e w1 ⟨he, h1⟩; rw [HR.out] at he; subst he; have H1 := Aside0.mk h1; clear h1; have q1 := H1.out.q1; have q0 := H1.out.q0) | (go_at_call 56; (with_reducible refine (rletter_c (bt s R) false HLR.out _).mono ?_); rintro e w' ⟨rfl, ⟨nd, rfl⟩⟩) | (go_at_call 52; (with_reducible refine (rc_add g s at_ line l c 2 (R) w0 _ (H1.out.drewN _) (by omega) ha (by omega) (by omega)).mono ?_); rintro e w2 ⟨rfl, h2⟩; have H2 := Aside0.mk h2; clear h2))
 go_ret
 exact ⟨rfl, by repeat (first | exact H2.out | apply Rc.drewN | apply Rc.drew)⟩
set_option maxHeartbeats 4000000 in
set_option maxRecDepth 100000 in
theorem rc_num5b (g : Nat) (s : ByteArray) (at_ line : Int) (l : List S29) (c : List S32) (R : Int) (w0 W : World) (h : Rc w0 W g s ⟨at_, line, l, c⟩) (hl : l.length ≤ 500000) (hln : line ≤ 1000000) (hln0 : 0 ≤ line) (hc : c.length ≤ 1000000) (ha : 0 ≤ at_) (ha1 : at_ < s.size) (hs : s.size ≤ 100000) (u32 : (bt s at_ == 32) = false) (u9 : (bt s at_ == 9) = false) (u10 : (bt s at_ == 10) = false) (u59 : (bt s at_ == 59) = false) (u47 : (bt s at_ == 47) = false) (u34 : (bt s at_ == 34) = false) (ud : digitP (bt s at_) = true) (hR : runP digitP s s.size at_ = R) (r0 : at_ ≤ R) (r1 : R ≤ s.size) (k1 : ¬ R - at_ > 12) (k2 : ¬ R - at_ > 1) (k3 : ¬ R < s.size) :
  Calls Tryd.prog 42 #[.pointer (some ⟨g, 0, none⟩)] W fun e W' => e = .returned (.bool true) ∧ Rc w0 W' g s (addP s at_ line l c 2 R) := by
 have HDG := Aside0.mk ud
 clear ud
 have HR := Aside0.mk hR
 clear hR
 have b11 : decide ((12 : Int) < R - at_) = false := decide_eq_false (by omega)
 have b12 : decide ((1 : Int) < R - at_) = false := decide_eq_false (by omega)
 have b13 : decide (R < (s.size : Int)) = false := decide_eq_false (by omega)
 have q0 := h.q0
 have q1 := h.q1
 have q2 := h.q2
 have f1 := h.fz 1
 have f2 := h.fz 2
 have p6 := eq_true ha
 have q6 := eq_true ha1
 have b6 : decide (0 ≤ at_) = true := decide_eq_true ha
 have b7 : decide (at_ ≤ (s.size : Int)) = true := decide_eq_true (by omega)
 have t7 := eq_true (show at_ ≤ (s.size : Int) by omega)
 have hx := bt_at s at_
 have e1 : IntKind.i64.wrap (R - at_) = R - at_ := IntWalk.i64_in _ (by omega)
 have HH := Aside0.mk h
 clear h
 go_enter Tryd.func42, Tryd.ntmps42
 (try go_wp2)
 go_quiet (fail)
 go_wp2_with (first | (go_at_call 54; (with_reducible refine (rdigit_c (bt s at_) true HDG.out _).mono ?_); rintro e w' ⟨rfl, ⟨nd, rfl⟩⟩; have q1 := (HH.out.drewN nd).q1) | (go_at_call 55; (with_reducible refine (rc_to_digit g s at_ line l c w0 _ (HH.out.drewN _) ha (by omega) (by omega)).mono ?_); rintro e w1 ⟨he, h1⟩; rw [HR.out] at he; subst he; have H1 := Aside0.mk h1; clear h1; have q1 := H1.out.q1; have q0 := H1.out.q0) | (go_at_call 52; (with_reducible refine (rc_add g s at_ line l c 2 (R) w0 _ H1.out (by omega) ha (by omega) (by omega)).mono ?_); rintro e w2 ⟨rfl, h2⟩; have H2 := Aside0.mk h2; clear h2))
 go_ret
 exact ⟨rfl, by repeat (first | exact H2.out | apply Rc.drewN | apply Rc.drew)⟩
set_option maxHeartbeats 4000000 in
set_option maxRecDepth 100000 in
theorem rc_nam1 (g : Nat) (s : ByteArray) (at_ line : Int) (l : List S29) (c : List S32) (R : Int) (w0 W : World) (h : Rc w0 W g s ⟨at_, line, l, c⟩) (hl : l.length ≤ 500000) (hln : line ≤ 1000000) (hln0 : 0 ≤ line) (hc : c.length ≤ 1000000) (ha : 0 ≤ at_) (ha1 : at_ < s.size) (hs : s.size ≤ 100000) (u32 : (bt s at_ == 32) = false) (u9 : (bt s at_ == 9) = false) (u10 : (bt s at_ == 10) = false) (u59 : (bt s at_ == 59) = false) (u47 : (bt s at_ == 47) = false) (u34 : (bt s at_ == 34) = false) (ud : digitP (bt s at_) = false) (ul : letterP (bt s at_) = true) (hR : runP wordP s s.size at_ = R) (r0 : at_ ≤ R) (r1 : R ≤ s.size) (k1 : R - at_ > 24) :
  Calls Tryd.prog 42 #[.pointer (some ⟨g, 0, none⟩)] W fun e W' => e = .returned (.bool false) ∧ Rc w0 W' g s ⟨at_, line, l, c⟩ := by
 have HDG := Aside0.mk ud
 clear ud
 have HLT := Aside0.mk ul
 clear ul
 have HR := Aside0.mk hR
 clear hR
 have b11 : decide ((24 : Int) < R - at_) = true := decide_eq_true (by omega)
 have q0 := h.q0
 have q1 := h.q1
 have q2 := h.q2
 have f1 := h.fz 1
 have f2 := h.fz 2
 have p6 := eq_true ha
 have q6 := eq_true ha1
 have b6 : decide (0 ≤ at_) = true := decide_eq_true ha
 have b7 : decide (at_ ≤ (s.size : Int)) = true := decide_eq_true (by omega)
 have t7 := eq_true (show at_ ≤ (s.size : Int) by omega)
 have hx := bt_at s at_
 have e1 : IntKind.i64.wrap (R - at_) = R - at_ := IntWalk.i64_in _ (by omega)
 have HH := Aside0.mk h
 clear h
 go_enter Tryd.func42, Tryd.ntmps42
 (try go_wp2)
 go_quiet (fail)
 go_wp2_with (first | (go_at_call 54; (with_reducible refine (rdigit_c (bt s at_) false HDG.out _).mono ?_); rintro e w' ⟨rfl, ⟨nd, rfl⟩⟩; have q1 := (HH.out.drewN nd).q1) | (go_at_call 56; (with_reducible refine (rletter_c (bt s at_) true HLT.out _).mono ?_); rintro e w' ⟨rfl, ⟨nd, rfl⟩⟩; have q1 := (HH.out.drewN nd).q1) | (go_at_call 55; (with_reducible refine (rc_to_word g s at_ line l c w0 _ (HH.out.drewN _) ha (by omega) (by omega)).mono ?_); rintro e w1 ⟨he, h1⟩; rw [HR.out] at he; subst he; have H1 := Aside0.mk h1; clear h1; have q1 := H1.out.q1; have q0 := H1.out.q0))
 go_ret
 exact ⟨rfl, by repeat (first | exact H1.out | apply Rc.drewN | apply Rc.drew)⟩
set_option maxHeartbeats 4000000 in
set_option maxRecDepth 100000 in
theorem rc_nam_true (g : Nat) (s : ByteArray) (at_ line : Int) (l : List S29) (c : List S32) (R : Int) (w0 W : World) (h : Rc w0 W g s ⟨at_, line, l, c⟩) (hl : l.length ≤ 500000) (hln : line ≤ 1000000) (hln0 : 0 ≤ line) (hc : c.length ≤ 1000000) (ha : 0 ≤ at_) (ha1 : at_ < s.size) (hs : s.size ≤ 100000) (u32 : (bt s at_ == 32) = false) (u9 : (bt s at_ == 9) = false) (u10 : (bt s at_ == 10) = false) (u59 : (bt s at_ == 59) = false) (u47 : (bt s at_ == 47) = false) (u34 : (bt s at_ == 34) = false) (ud : digitP (bt s at_) = false) (ul : letterP (bt s at_) = true) (hR : runP wordP s s.size at_ = R) (r0 : at_ ≤ R) (r1 : R ≤ s.size) (k1 : ¬ R - at_ > 24) (uk : keyP (s.extract at_.toNat R.toNat) = true) :
  Calls Tryd.prog 42 #[.pointer (some ⟨g, 0, none⟩)] W fun e W' => e = .returned (.bool true) ∧ Rc w0 W' g s (addP s at_ line l c 5 R) := by
 have HDG := Aside0.mk ud
 clear ud
 have HLT := Aside0.mk ul
 clear ul
 have HR := Aside0.mk hR
 clear hR
 have b11 : decide ((24 : Int) < R - at_) = false := decide_eq_false (by omega)
 have b12 : decide (at_ ≤ R) = true := decide_eq_true r0
 have b13 : decide (R ≤ (s.size : Int)) = true := decide_eq_true r1
 have HKY := Aside0.mk uk
 clear uk
 have q0 := h.q0
 have q1 := h.q1
 have q2 := h.q2
 have f1 := h.fz 1
 have f2 := h.fz 2
 have p6 := eq_true ha
 have q6 := eq_true ha1
 have b6 : decide (0 ≤ at_) = true := decide_eq_true ha
 have b7 : decide (at_ ≤ (s.size : Int)) = true := decide_eq_true (by omega)
 have t7 := eq_true (show at_ ≤ (s.size : Int) by omega)
 have hx := bt_at s at_
 have e1 : IntKind.i64.wrap (R - at_) = R - at_ := IntWalk.i64_in _ (by omega)
 have HH := Aside0.mk h
 clear h
 go_enter Tryd.func42, Tryd.ntmps42
 (try go_wp2)
 go_quiet (fail)
 go_wp2_with (first | (go_at_call 54; (with_reducible refine (rdigit_c (bt s at_) false HDG.out _).mono ?_); rintro e w' ⟨rfl, ⟨nd, rfl⟩⟩; have q1 := (HH.out.drewN nd).q1) | (go_at_call 56; (with_reducible refine (rletter_c (bt s at_) true HLT.out _).mono ?_); rintro e w' ⟨rfl, ⟨nd, rfl⟩⟩; have q1 := (HH.out.drewN nd).q1) | (go_at_call 55; (with_reducible refine (rc_to_word g s at_ line l c w0 _ (HH.out.drewN _) ha (by omega) (by omega)).mono ?_); rintro e w1 ⟨he, h1⟩; rw [HR.out] at he; subst he; have H1 := Aside0.mk h1; clear h1; have q1 := H1.out.q1; have q0 := H1.out.q0))
 have HD1 := Aside0.mk (Rc.drew H1.out)
 refine start_ (n := 11) (S := fun w' => w'.cell? ⟨g, 0, none⟩ = some (.string s) ∧ w'.cell? ⟨g, 1, none⟩ = some (.int .i64 at_)) (ds := [10]) #[false, false, false, false, false, false, false, false, false, false, false] (by kernel_rfl) rfl rfl ⟨HD1.out.q0, HD1.out.q1⟩ (fun hHeld => ?_)
 generalize w1.drew = W2 at HD1 hHeld ⊢
 refine pure_ (i := 0) (N := some 229) (v := ?_) (a' := ?_) #[true, false, false, false, false, false, false, false, false, false, false] rfl rfl (by kernel_rfl) (fun _ _ _ h => h) (Or.inl ⟨by rfl, ?_⟩) ?_ ?_
 rotate_left
 ·intro w'
  go_simp
  with_reducible rfl
 rotate_left
 ·simp only [Act.put, List.setIfInBounds_toArray, List.set_cons_zero, List.set_cons_succ, i64_w, i32_w]
  rfl
 refine pure_ (i := 1) (N := some 230) (v := ?_) (a' := ?_) #[true, true, false, false, false, false, false, false, false, false, false] rfl rfl (by kernel_rfl) (fun _ _ _ h => h) (Or.inl ⟨by rfl, ?_⟩) ?_ ?_
 rotate_left
 ·intro w'
  go_simp
  with_reducible rfl
 rotate_left
 ·simp only [Act.put, List.setIfInBounds_toArray, List.set_cons_zero, List.set_cons_succ, i64_w, i32_w]
  rfl
 refine pure_ (i := 2) (N := some 231) (v := ?_) (a' := ?_) #[true, true, true, false, false, false, false, false, false, false, false] rfl rfl (by kernel_rfl) (fun _ _ _ h => h) (Or.inl ⟨by rfl, ?_⟩) ?_ ?_
 rotate_left
 ·intro w'
  go_simp
  with_reducible rfl
 rotate_left
 ·simp only [Act.put, List.setIfInBounds_toArray, List.set_cons_zero, List.set_cons_succ, i64_w, i32_w]
  rfl
 refine pure_ (i := 4) (N := some 233) (v := ?_) (a' := ?_) #[true, true, true, false, true, false, false, false, false, false, false] rfl rfl (by kernel_rfl) (fun _ _ _ h => h) (Or.inl ⟨by rfl, ?_⟩) ?_ ?_
 rotate_left
 ·intro w'
  go_simp
  with_reducible rfl
 rotate_left
 ·simp only [Act.put, List.setIfInBounds_toArray, List.set_cons_zero, List.set_cons_succ, i64_w, i32_w]
  rfl
 refine pure_ (i := 5) (N := some 234) (v := ?_) (a' := ?_) #[true, true, true, false, true, true, false, false, false, false, false] rfl rfl (by kernel_rfl) (fun _ _ _ h => h) (Or.inl ⟨by rfl, ?_⟩) ?_ ?_
 rotate_left
 ·intro w'
  go_simp
  with_reducible rfl
 rotate_left
 ·simp only [Act.put, List.setIfInBounds_toArray, List.set_cons_zero, List.set_cons_succ, i64_w, i32_w]
  rfl
 refine pure_ (i := 6) (N := some 235) (v := ?_) (a' := ?_) #[true, true, true, false, true, true, true, false, false, false, false] rfl rfl (by kernel_rfl) (fun _ _ _ h => h) (Or.inl ⟨by rfl, ?_⟩) ?_ ?_
 rotate_left
 ·intro w'
  go_simp
  with_reducible rfl
 rotate_left
 ·simp only [Act.put, List.setIfInBounds_toArray, List.set_cons_zero, List.set_cons_succ, i64_w, i32_w]
  rfl
 refine pure_ (i := 8) (N := some 237) (v := ?_) (a' := ?_) #[true, true, true, false, true, true, true, false, true, false, false] rfl rfl (by kernel_rfl) (fun _ _ _ h => h) (Or.inl ⟨by rfl, ?_⟩) ?_ ?_
 rotate_left
 ·intro w'
  go_simp
  with_reducible rfl
 rotate_left
 ·simp only [Act.put, List.setIfInBounds_toArray, List.set_cons_zero, List.set_cons_succ, i64_w, i32_w]
  rfl
 refine take_ (i := 3) (N := some 232) (v := ?_) (a' := ?_) #[true, true, true, true, true, true, true, false, true, false, false] rfl rfl (by kernel_rfl) (fun _ _ _ h => h) (Or.inl ⟨by rfl, ?_⟩) hHeld ?_ ?_
 rotate_left
 ·rintro w' ⟨s0, s1⟩
  go_simp
  with_reducible rfl
 rotate_left
 ·simp only [Act.put, List.setIfInBounds_toArray, List.set_cons_zero, List.set_cons_succ, i64_w, i32_w]
  rfl
 refine take_ (i := 7) (N := some 236) (v := ?_) (a' := ?_) #[true, true, true, true, true, true, true, true, true, false, false] rfl rfl (by kernel_rfl) (fun _ _ _ h => h) (Or.inl ⟨by rfl, ?_⟩) hHeld ?_ ?_
 rotate_left
 ·rintro w' ⟨s0, s1⟩
  go_simp
  with_reducible rfl
 rotate_left
 ·simp only [Act.put, List.setIfInBounds_toArray, List.set_cons_zero, List.set_cons_succ, i64_w, i32_w]
  rfl
 refine pure_ (i := 9) (N := some 238) (v := ?_) (a' := ?_) #[true, true, true, true, true, true, true, true, true, true, false] rfl rfl (by kernel_rfl) (fun _ _ _ h => h) (Or.inl ⟨by rfl, ?_⟩) ?_ ?_
 rotate_left
 ·intro w'
  go_simp
  with_reducible rfl
 rotate_left
 ·simp only [Act.put, List.setIfInBounds_toArray, List.set_cons_zero, List.set_cons_succ, i64_w, i32_w]
  rfl
 refine last_ (i := 10) (N := some 239) #[true, true, true, true, true, true, true, true, true, true, true] rfl rfl (by kernel_rfl) (by decide) (fun K hK => ?_)
 refine goes_ Tryd.func57 (by kernel_rfl) rfl #[.string (s.extract at_.toNat R.toNat)] (by rfl) rfl rfl (by simp only [List.map_toArray, List.map_cons, List.map_nil]; rfl) ?_
 with_reducible refine (rkey_c _ true HKY.out _).mono ?_
 rintro e w3 ⟨rfl, hb⟩
 have H3 := Aside0.mk (Rc.of_below HD1.out hb)
 clear hb
 refine ⟨_, rfl, ?_⟩
 refine hK.out _ _ ?_
 clear hK K
 refine norm_ (a' := ?_) ?_ ?_
 rotate_left
 ·show Act.put _ (some 239) _ = _
  simp only [Act.put, List.setIfInBounds_toArray, List.set_cons_zero, List.set_cons_succ, i64_w, i32_w]
  rfl
 refine done_ (by kernel_rfl) ?_
 
 go_wp2_with (go_at_call 52; (with_reducible refine (rc_add g s at_ line l c 5 (R) w0 _ H3.out (by omega) ha (by omega) (by omega)).mono ?_); rintro e w2 ⟨rfl, h2⟩; have H2 := Aside0.mk h2; clear h2)
 go_ret
 exact ⟨rfl, by repeat (first | exact H2.out | apply Rc.drewN | apply Rc.drew)⟩
set_option maxHeartbeats 4000000 in
set_option maxRecDepth 100000 in
theorem rc_nam_false (g : Nat) (s : ByteArray) (at_ line : Int) (l : List S29) (c : List S32) (R : Int) (w0 W : World) (h : Rc w0 W g s ⟨at_, line, l, c⟩) (hl : l.length ≤ 500000) (hln : line ≤ 1000000) (hln0 : 0 ≤ line) (hc : c.length ≤ 1000000) (ha : 0 ≤ at_) (ha1 : at_ < s.size) (hs : s.size ≤ 100000) (u32 : (bt s at_ == 32) = false) (u9 : (bt s at_ == 9) = false) (u10 : (bt s at_ == 10) = false) (u59 : (bt s at_ == 59) = false) (u47 : (bt s at_ == 47) = false) (u34 : (bt s at_ == 34) = false) (ud : digitP (bt s at_) = false) (ul : letterP (bt s at_) = true) (hR : runP wordP s s.size at_ = R) (r0 : at_ ≤ R) (r1 : R ≤ s.size) (k1 : ¬ R - at_ > 24) (uk : keyP (s.extract at_.toNat R.toNat) = false) :
  Calls Tryd.prog 42 #[.pointer (some ⟨g, 0, none⟩)] W fun e W' => e = .returned (.bool true) ∧ Rc w0 W' g s (addP s at_ line l c 1 R) := by
 have HDG := Aside0.mk ud
 clear ud
 have HLT := Aside0.mk ul
 clear ul
 have HR := Aside0.mk hR
 clear hR
 have b11 : decide ((24 : Int) < R - at_) = false := decide_eq_false (by omega)
 have b12 : decide (at_ ≤ R) = true := decide_eq_true r0
 have b13 : decide (R ≤ (s.size : Int)) = true := decide_eq_true r1
 have HKY := Aside0.mk uk
 clear uk
 have q0 := h.q0
 have q1 := h.q1
 have q2 := h.q2
 have f1 := h.fz 1
 have f2 := h.fz 2
 have p6 := eq_true ha
 have q6 := eq_true ha1
 have b6 : decide (0 ≤ at_) = true := decide_eq_true ha
 have b7 : decide (at_ ≤ (s.size : Int)) = true := decide_eq_true (by omega)
 have t7 := eq_true (show at_ ≤ (s.size : Int) by omega)
 have hx := bt_at s at_
 have e1 : IntKind.i64.wrap (R - at_) = R - at_ := IntWalk.i64_in _ (by omega)
 have HH := Aside0.mk h
 clear h
 go_enter Tryd.func42, Tryd.ntmps42
 (try go_wp2)
 go_quiet (fail)
 go_wp2_with (first | (go_at_call 54; (with_reducible refine (rdigit_c (bt s at_) false HDG.out _).mono ?_); rintro e w' ⟨rfl, ⟨nd, rfl⟩⟩; have q1 := (HH.out.drewN nd).q1) | (go_at_call 56; (with_reducible refine (rletter_c (bt s at_) true HLT.out _).mono ?_); rintro e w' ⟨rfl, ⟨nd, rfl⟩⟩; have q1 := (HH.out.drewN nd).q1) | (go_at_call 55; (with_reducible refine (rc_to_word g s at_ line l c w0 _ (HH.out.drewN _) ha (by omega) (by omega)).mono ?_); rintro e w1 ⟨he, h1⟩; rw [HR.out] at he; subst he; have H1 := Aside0.mk h1; clear h1; have q1 := H1.out.q1; have q0 := H1.out.q0))
 have HD1 := Aside0.mk (Rc.drew H1.out)
 refine start_ (n := 11) (S := fun w' => w'.cell? ⟨g, 0, none⟩ = some (.string s) ∧ w'.cell? ⟨g, 1, none⟩ = some (.int .i64 at_)) (ds := [10]) #[false, false, false, false, false, false, false, false, false, false, false] (by kernel_rfl) rfl rfl ⟨HD1.out.q0, HD1.out.q1⟩ (fun hHeld => ?_)
 generalize w1.drew = W2 at HD1 hHeld ⊢
 refine pure_ (i := 0) (N := some 229) (v := ?_) (a' := ?_) #[true, false, false, false, false, false, false, false, false, false, false] rfl rfl (by kernel_rfl) (fun _ _ _ h => h) (Or.inl ⟨by rfl, ?_⟩) ?_ ?_
 rotate_left
 ·intro w'
  go_simp
  with_reducible rfl
 rotate_left
 ·simp only [Act.put, List.setIfInBounds_toArray, List.set_cons_zero, List.set_cons_succ, i64_w, i32_w]
  rfl
 refine pure_ (i := 1) (N := some 230) (v := ?_) (a' := ?_) #[true, true, false, false, false, false, false, false, false, false, false] rfl rfl (by kernel_rfl) (fun _ _ _ h => h) (Or.inl ⟨by rfl, ?_⟩) ?_ ?_
 rotate_left
 ·intro w'
  go_simp
  with_reducible rfl
 rotate_left
 ·simp only [Act.put, List.setIfInBounds_toArray, List.set_cons_zero, List.set_cons_succ, i64_w, i32_w]
  rfl
 refine pure_ (i := 2) (N := some 231) (v := ?_) (a' := ?_) #[true, true, true, false, false, false, false, false, false, false, false] rfl rfl (by kernel_rfl) (fun _ _ _ h => h) (Or.inl ⟨by rfl, ?_⟩) ?_ ?_
 rotate_left
 ·intro w'
  go_simp
  with_reducible rfl
 rotate_left
 ·simp only [Act.put, List.setIfInBounds_toArray, List.set_cons_zero, List.set_cons_succ, i64_w, i32_w]
  rfl
 refine pure_ (i := 4) (N := some 233) (v := ?_) (a' := ?_) #[true, true, true, false, true, false, false, false, false, false, false] rfl rfl (by kernel_rfl) (fun _ _ _ h => h) (Or.inl ⟨by rfl, ?_⟩) ?_ ?_
 rotate_left
 ·intro w'
  go_simp
  with_reducible rfl
 rotate_left
 ·simp only [Act.put, List.setIfInBounds_toArray, List.set_cons_zero, List.set_cons_succ, i64_w, i32_w]
  rfl
 refine pure_ (i := 5) (N := some 234) (v := ?_) (a' := ?_) #[true, true, true, false, true, true, false, false, false, false, false] rfl rfl (by kernel_rfl) (fun _ _ _ h => h) (Or.inl ⟨by rfl, ?_⟩) ?_ ?_
 rotate_left
 ·intro w'
  go_simp
  with_reducible rfl
 rotate_left
 ·simp only [Act.put, List.setIfInBounds_toArray, List.set_cons_zero, List.set_cons_succ, i64_w, i32_w]
  rfl
 refine pure_ (i := 6) (N := some 235) (v := ?_) (a' := ?_) #[true, true, true, false, true, true, true, false, false, false, false] rfl rfl (by kernel_rfl) (fun _ _ _ h => h) (Or.inl ⟨by rfl, ?_⟩) ?_ ?_
 rotate_left
 ·intro w'
  go_simp
  with_reducible rfl
 rotate_left
 ·simp only [Act.put, List.setIfInBounds_toArray, List.set_cons_zero, List.set_cons_succ, i64_w, i32_w]
  rfl
 refine pure_ (i := 8) (N := some 237) (v := ?_) (a' := ?_) #[true, true, true, false, true, true, true, false, true, false, false] rfl rfl (by kernel_rfl) (fun _ _ _ h => h) (Or.inl ⟨by rfl, ?_⟩) ?_ ?_
 rotate_left
 ·intro w'
  go_simp
  with_reducible rfl
 rotate_left
 ·simp only [Act.put, List.setIfInBounds_toArray, List.set_cons_zero, List.set_cons_succ, i64_w, i32_w]
  rfl
 refine take_ (i := 3) (N := some 232) (v := ?_) (a' := ?_) #[true, true, true, true, true, true, true, false, true, false, false] rfl rfl (by kernel_rfl) (fun _ _ _ h => h) (Or.inl ⟨by rfl, ?_⟩) hHeld ?_ ?_
 rotate_left
 ·rintro w' ⟨s0, s1⟩
  go_simp
  with_reducible rfl
 rotate_left
 ·simp only [Act.put, List.setIfInBounds_toArray, List.set_cons_zero, List.set_cons_succ, i64_w, i32_w]
  rfl
 refine take_ (i := 7) (N := some 236) (v := ?_) (a' := ?_) #[true, true, true, true, true, true, true, true, true, false, false] rfl rfl (by kernel_rfl) (fun _ _ _ h => h) (Or.inl ⟨by rfl, ?_⟩) hHeld ?_ ?_
 rotate_left
 ·rintro w' ⟨s0, s1⟩
  go_simp
  with_reducible rfl
 rotate_left
 ·simp only [Act.put, List.setIfInBounds_toArray, List.set_cons_zero, List.set_cons_succ, i64_w, i32_w]
  rfl
 refine pure_ (i := 9) (N := some 238) (v := ?_) (a' := ?_) #[true, true, true, true, true, true, true, true, true, true, false] rfl rfl (by kernel_rfl) (fun _ _ _ h => h) (Or.inl ⟨by rfl, ?_⟩) ?_ ?_
 rotate_left
 ·intro w'
  go_simp
  with_reducible rfl
 rotate_left
 ·simp only [Act.put, List.setIfInBounds_toArray, List.set_cons_zero, List.set_cons_succ, i64_w, i32_w]
  rfl
 refine last_ (i := 10) (N := some 239) #[true, true, true, true, true, true, true, true, true, true, true] rfl rfl (by kernel_rfl) (by decide) (fun K hK => ?_)
 refine goes_ Tryd.func57 (by kernel_rfl) rfl #[.string (s.extract at_.toNat R.toNat)] (by rfl) rfl rfl (by simp only [List.map_toArray, List.map_cons, List.map_nil]; rfl) ?_
 with_reducible refine (rkey_c _ false HKY.out _).mono ?_
 rintro e w3 ⟨rfl, hb⟩
 have H3 := Aside0.mk (Rc.of_below HD1.out hb)
 clear hb
 refine ⟨_, rfl, ?_⟩
 refine hK.out _ _ ?_
 clear hK K
 refine norm_ (a' := ?_) ?_ ?_
 rotate_left
 ·show Act.put _ (some 239) _ = _
  simp only [Act.put, List.setIfInBounds_toArray, List.set_cons_zero, List.set_cons_succ, i64_w, i32_w]
  rfl
 refine done_ (by kernel_rfl) ?_
 
 go_wp2_with (go_at_call 52; (with_reducible refine (rc_add g s at_ line l c 1 (R) w0 _ H3.out (by omega) ha (by omega) (by omega)).mono ?_); rintro e w2 ⟨rfl, h2⟩; have H2 := Aside0.mk h2; clear h2)
 go_ret
 exact ⟨rfl, by repeat (first | exact H2.out | apply Rc.drewN | apply Rc.drew)⟩
set_option maxHeartbeats 4000000 in
set_option maxRecDepth 100000 in
theorem rc_ops (g : Nat) (s : ByteArray) (at_ line : Int) (l : List S29) (c : List S32) (w0 W : World) (h : Rc w0 W g s ⟨at_, line, l, c⟩) (hl : l.length ≤ 500000) (hln : line ≤ 1000000) (hln0 : 0 ≤ line) (hc : c.length ≤ 1000000) (ha : 0 ≤ at_) (ha1 : at_ < s.size) (hs : s.size ≤ 100000) (u32 : (bt s at_ == 32) = false) (u9 : (bt s at_ == 9) = false) (u10 : (bt s at_ == 10) = false) (u59 : (bt s at_ == 59) = false) (u47 : (bt s at_ == 47) = false) (u34 : (bt s at_ == 34) = false) (ud : digitP (bt s at_) = false) (ul : letterP (bt s at_) = false) (b : Bool) (x : RSt) (hres : (if opOk s at_ 2 then (true, addP s at_ line l c 4 (at_ + 2)) else if opOk s at_ 1 then (true, addP s at_ line l c 4 (at_ + 1)) else (false, (⟨at_, line, l, c⟩ : RSt))) = (b, x)) :
  Calls Tryd.prog 42 #[.pointer (some ⟨g, 0, none⟩)] W fun e W' => e = .returned (.bool b) ∧ Rc w0 W' g s x := by
 have HDG := Aside0.mk ud
 clear ud
 have HLT := Aside0.mk ul
 clear ul
 have HS := Aside0.mk hres
 clear hres
 have q0 := h.q0
 have q1 := h.q1
 have q2 := h.q2
 have f1 := h.fz 1
 have f2 := h.fz 2
 have p6 := eq_true ha
 have q6 := eq_true ha1
 have b6 : decide (0 ≤ at_) = true := decide_eq_true ha
 have b7 : decide (at_ ≤ (s.size : Int)) = true := decide_eq_true (by omega)
 have t7 := eq_true (show at_ ≤ (s.size : Int) by omega)
 have hx := bt_at s at_
 have HH := Aside0.mk h
 clear h
 go_enter Tryd.func42, Tryd.ntmps42
 (try go_wp2)
 go_quiet (fail)
 go_wp2_with (first | (go_at_call 54; (with_reducible refine (rdigit_c (bt s at_) false HDG.out _).mono ?_); rintro e w' ⟨rfl, ⟨nd, rfl⟩⟩; have q1 := (HH.out.drewN nd).q1) | (go_at_call 56; (with_reducible refine (rletter_c (bt s at_) false HLT.out _).mono ?_); rintro e w' ⟨rfl, ⟨nd, rfl⟩⟩; have q1 := (HH.out.drewN nd).q1))
 clear p6 q6 b6 b7 t7 hx q0 q1 q2 f1 f2 u32 u9 u10 u59 u47 u34
 go_loopw [8] (fun n wr => ((n = .int .i64 2) ∨ (n = .int .i64 1 ∧ Aside0 (¬ opOk s at_ 2)) ∨ (n = .int .i64 0 ∧ Aside0 (¬ opOk s at_ 2) ∧ Aside0 (¬ opOk s at_ 1))) ∧ Aside0 (Rc w0 wr g s ⟨at_, line, l, c⟩)) (fun n _ => (intOf n).toNat)
 case atStart => exact ⟨.inl rfl, ⟨by repeat (first | exact HH.out | apply Rc.drewN | apply Rc.drew)⟩⟩
 case round =>
  clear HH
  obtain ⟨hn, HH⟩ := hrel
  rcases hn with rfl | ⟨rfl, hno⟩ | ⟨rfl, hno, hno1⟩
  ·skip
   have e2 : IntKind.i64.wrap (at_ + 2) = at_ + 2 := IntWalk.i64_in _ (by omega)
   by_cases g1 : at_ + 2 ≤ (s.size : Int)
   ·have b1 : decide (at_ + 2 ≤ (s.size : Int)) = true := decide_eq_true (by omega)
    have p1 : 0 ≤ at_ + 2 := by omega
    have p2 : at_ ≤ at_ + 2 := by omega
    have b2 : decide (0 ≤ at_) = true := decide_eq_true ha
    have b3 : decide (at_ ≤ at_ + 2) = true := decide_eq_true p2
    cases ho : opP (s.extract at_.toNat (at_ + 2).toNat) with
    | true =>
     have HO := Aside0.mk ho
     have HX : Aside0 ((true, addP s at_ line l c 4 (at_ + 2)) = (b, x)) := ⟨by have := HS.out; rw [if_pos (show opOk s at_ 2 from ⟨g1, ho⟩)] at this; exact this⟩
     clear ho
     go_wp2
     have H0 := Aside0.mk (Rc.drew HH.out)
     refine start_ (n := 30) (S := fun w' => w'.cell? ⟨g, 0, none⟩ = some (.string s) ∧ w'.cell? ⟨g, 1, none⟩ = some (.int .i64 at_)) (ds := [28]) #[false, false, false, false, false, false, false, false, false, false, false, false, false, false, false, false, false, false, false, false, false, false, false, false, false, false, false, false, false, false] (by kernel_rfl) rfl rfl ⟨H0.out.q0, H0.out.q1⟩ (fun hHeld => ?_)
     generalize wr.drew = W1 at H0 hHeld ⊢
     refine pure_ (i := 0) (N := some 22) (v := ?_) (a' := ?_) #[true, false, false, false, false, false, false, false, false, false, false, false, false, false, false, false, false, false, false, false, false, false, false, false, false, false, false, false, false, false] rfl rfl (by kernel_rfl) (fun _ _ _ h => h) (Or.inl ⟨by rfl, ?_⟩) ?_ ?_
     rotate_left
     ·intro w'
      go_simp
      with_reducible rfl
     rotate_left
     ·simp only [Act.put, List.setIfInBounds_toArray, List.set_cons_zero, List.set_cons_succ, i64_w, i32_w]
      rfl
     refine pure_ (i := 1) (N := some 23) (v := ?_) (a' := ?_) #[true, true, false, false, false, false, false, false, false, false, false, false, false, false, false, false, false, false, false, false, false, false, false, false, false, false, false, false, false, false] rfl rfl (by kernel_rfl) (fun _ _ _ h => h) (Or.inl ⟨by rfl, ?_⟩) ?_ ?_
     rotate_left
     ·intro w'
      go_simp
      with_reducible rfl
     rotate_left
     ·simp only [Act.put, List.setIfInBounds_toArray, List.set_cons_zero, List.set_cons_succ, i64_w, i32_w]
      rfl
     refine pure_ (i := 2) (N := some 24) (v := ?_) (a' := ?_) #[true, true, true, false, false, false, false, false, false, false, false, false, false, false, false, false, false, false, false, false, false, false, false, false, false, false, false, false, false, false] rfl rfl (by kernel_rfl) (fun _ _ _ h => h) (Or.inl ⟨by rfl, ?_⟩) ?_ ?_
     rotate_left
     ·intro w'
      go_simp
      with_reducible rfl
     rotate_left
     ·simp only [Act.put, List.setIfInBounds_toArray, List.set_cons_zero, List.set_cons_succ, i64_w, i32_w]
      rfl
     refine pure_ (i := 4) (N := some 26) (v := ?_) (a' := ?_) #[true, true, true, false, true, false, false, false, false, false, false, false, false, false, false, false, false, false, false, false, false, false, false, false, false, false, false, false, false, false] rfl rfl (by kernel_rfl) (fun _ _ _ h => h) (Or.inl ⟨by rfl, ?_⟩) ?_ ?_
     rotate_left
     ·intro w'
      go_simp
      with_reducible rfl
     rotate_left
     ·simp only [Act.put, List.setIfInBounds_toArray, List.set_cons_zero, List.set_cons_succ, i64_w, i32_w]
      rfl
     refine pure_ (i := 6) (N := some 28) (v := ?_) (a' := ?_) #[true, true, true, false, true, false, true, false, false, false, false, false, false, false, false, false, false, false, false, false, false, false, false, false, false, false, false, false, false, false] rfl rfl (by kernel_rfl) (fun _ _ _ h => h) (Or.inl ⟨by rfl, ?_⟩) ?_ ?_
     rotate_left
     ·intro w'
      go_simp
      with_reducible rfl
     rotate_left
     ·simp only [Act.put, List.setIfInBounds_toArray, List.set_cons_zero, List.set_cons_succ, i64_w, i32_w]
      rfl
     refine pure_ (i := 7) (N := some 29) (v := ?_) (a' := ?_) #[true, true, true, false, true, false, true, true, false, false, false, false, false, false, false, false, false, false, false, false, false, false, false, false, false, false, false, false, false, false] rfl rfl (by kernel_rfl) (fun _ _ _ h => h) (Or.inl ⟨by rfl, ?_⟩) ?_ ?_
     rotate_left
     ·intro w'
      go_simp
      with_reducible rfl
     rotate_left
     ·simp only [Act.put, List.setIfInBounds_toArray, List.set_cons_zero, List.set_cons_succ, i64_w, i32_w]
      rfl
     refine pure_ (i := 8) (N := some 30) (v := ?_) (a' := ?_) #[true, true, true, false, true, false, true, true, true, false, false, false, false, false, false, false, false, false, false, false, false, false, false, false, false, false, false, false, false, false] rfl rfl (by kernel_rfl) (fun _ _ _ h => h) (Or.inl ⟨by rfl, ?_⟩) ?_ ?_
     rotate_left
     ·intro w'
      go_simp
      with_reducible rfl
     rotate_left
     ·simp only [Act.put, List.setIfInBounds_toArray, List.set_cons_zero, List.set_cons_succ, i64_w, i32_w]
      rfl
     refine take_ (i := 3) (N := some 25) (v := ?_) (a' := ?_) #[true, true, true, true, true, false, true, true, true, false, false, false, false, false, false, false, false, false, false, false, false, false, false, false, false, false, false, false, false, false] rfl rfl (by kernel_rfl) (fun _ _ _ h => h) (Or.inl ⟨by rfl, ?_⟩) hHeld ?_ ?_
     rotate_left
     ·rintro w' ⟨s0, s1⟩
      go_simp
      with_reducible rfl
     rotate_left
     ·simp only [Act.put, List.setIfInBounds_toArray, List.set_cons_zero, List.set_cons_succ, i64_w, i32_w]
      rfl
     refine pure_ (i := 5) (N := some 27) (v := ?_) (a' := ?_) #[true, true, true, true, true, true, true, true, true, false, false, false, false, false, false, false, false, false, false, false, false, false, false, false, false, false, false, false, false, false] rfl rfl (by kernel_rfl) (fun _ _ _ h => h) (Or.inl ⟨by rfl, ?_⟩) ?_ ?_
     rotate_left
     ·intro w'
      go_simp
      with_reducible rfl
     rotate_left
     ·simp only [Act.put, List.setIfInBounds_toArray, List.set_cons_zero, List.set_cons_succ, i64_w, i32_w]
      rfl
     refine take_ (i := 9) (N := some 31) (v := ?_) (a' := ?_) #[true, true, true, true, true, true, true, true, true, true, false, false, false, false, false, false, false, false, false, false, false, false, false, false, false, false, false, false, false, false] rfl rfl (by kernel_rfl) (fun _ _ _ h => h) (Or.inl ⟨by rfl, ?_⟩) hHeld ?_ ?_
     rotate_left
     ·rintro w' ⟨s0, s1⟩
      go_simp
      with_reducible rfl
     rotate_left
     ·simp only [Act.put, List.setIfInBounds_toArray, List.set_cons_zero, List.set_cons_succ, i64_w, i32_w]
      rfl
     refine pure_ (i := 10) (N := some 32) (v := ?_) (a' := ?_) #[true, true, true, true, true, true, true, true, true, true, true, false, false, false, false, false, false, false, false, false, false, false, false, false, false, false, false, false, false, false] rfl rfl (by kernel_rfl) (fun _ _ _ h => h) (Or.inl ⟨by rfl, ?_⟩) ?_ ?_
     rotate_left
     ·intro w'
      go_simp
      with_reducible rfl
     rotate_left
     ·simp only [Act.put, List.setIfInBounds_toArray, List.set_cons_zero, List.set_cons_succ, i64_w, i32_w]
      rfl
     refine pure_ (i := 11) (N := some 33) (v := ?_) (a' := ?_) #[true, true, true, true, true, true, true, true, true, true, true, true, false, false, false, false, false, false, false, false, false, false, false, false, false, false, false, false, false, false] rfl rfl (by kernel_rfl) (fun _ _ _ h => h) (Or.inl ⟨by rfl, ?_⟩) ?_ ?_
     rotate_left
     ·intro w'
      go_simp
      with_reducible rfl
     rotate_left
     ·simp only [Act.put, List.setIfInBounds_toArray, List.set_cons_zero, List.set_cons_succ, i64_w, i32_w]
      rfl
     refine pure_ (i := 12) (N := some 34) (v := ?_) (a' := ?_) #[true, true, true, true, true, true, true, true, true, true, true, true, true, false, false, false, false, false, false, false, false, false, false, false, false, false, false, false, false, false] rfl rfl (by kernel_rfl) (fun _ _ _ h => h) (Or.inl ⟨by rfl, ?_⟩) ?_ ?_
     rotate_left
     ·intro w'
      go_simp
      with_reducible rfl
     rotate_left
     ·simp only [Act.put, List.setIfInBounds_toArray, List.set_cons_zero, List.set_cons_succ, i64_w, i32_w]
      rfl
     refine pure_ (i := 13) (N := some 35) (v := ?_) (a' := ?_) #[true, true, true, true, true, true, true, true, true, true, true, true, true, true, false, false, false, false, false, false, false, false, false, false, false, false, false, false, false, false] rfl rfl (by kernel_rfl) (fun _ _ _ h => h) (Or.inl ⟨by rfl, ?_⟩) ?_ ?_
     rotate_left
     ·intro w'
      go_simp
      with_reducible rfl
     rotate_left
     ·simp only [Act.put, List.setIfInBounds_toArray, List.set_cons_zero, List.set_cons_succ, i64_w, i32_w]
      rfl
     refine pure_ (i := 14) (N := some 36) (v := ?_) (a' := ?_) #[true, true, true, true, true, true, true, true, true, true, true, true, true, true, true, false, false, false, false, false, false, false, false, false, false, false, false, false, false, false] rfl rfl (by kernel_rfl) (fun _ _ _ h => h) (Or.inl ⟨by rfl, ?_⟩) ?_ ?_
     rotate_left
     ·intro w'
      go_simp
      with_reducible rfl
     rotate_left
     ·simp only [Act.put, List.setIfInBounds_toArray, List.set_cons_zero, List.set_cons_succ, i64_w, i32_w]
      rfl
     refine pure_ (i := 15) (N := some 37) (v := ?_) (a' := ?_) #[true, true, true, true, true, true, true, true, true, true, true, true, true, true, true, true, false, false, false, false, false, false, false, false, false, false, false, false, false, false] rfl rfl (by kernel_rfl) (fun _ _ _ h => h) (Or.inl ⟨by rfl, ?_⟩) ?_ ?_
     rotate_left
     ·intro w'
      go_simp
      with_reducible rfl
     rotate_left
     ·simp only [Act.put, List.setIfInBounds_toArray, List.set_cons_zero, List.set_cons_succ, i64_w, i32_w]
      rfl
     refine pure_ (i := 17) (N := some 39) (v := ?_) (a' := ?_) #[true, true, true, true, true, true, true, true, true, true, true, true, true, true, true, true, false, true, false, false, false, false, false, false, false, false, false, false, false, false] rfl rfl (by kernel_rfl) (fun _ _ _ h => h) (Or.inl ⟨by rfl, ?_⟩) ?_ ?_
     rotate_left
     ·intro w'
      go_simp
      with_reducible rfl
     rotate_left
     ·simp only [Act.put, List.setIfInBounds_toArray, List.set_cons_zero, List.set_cons_succ, i64_w, i32_w]
      rfl
     refine pure_ (i := 18) (N := some 40) (v := ?_) (a' := ?_) #[true, true, true, true, true, true, true, true, true, true, true, true, true, true, true, true, false, true, true, false, false, false, false, false, false, false, false, false, false, false] rfl rfl (by kernel_rfl) (fun _ _ _ h => h) (Or.inl ⟨by rfl, ?_⟩) ?_ ?_
     rotate_left
     ·intro w'
      go_simp
      with_reducible rfl
     rotate_left
     ·simp only [Act.put, List.setIfInBounds_toArray, List.set_cons_zero, List.set_cons_succ, i64_w, i32_w]
      rfl
     refine pure_ (i := 19) (N := some 41) (v := ?_) (a' := ?_) #[true, true, true, true, true, true, true, true, true, true, true, true, true, true, true, true, false, true, true, true, false, false, false, false, false, false, false, false, false, false] rfl rfl (by kernel_rfl) (fun _ _ _ h => h) (Or.inl ⟨by rfl, ?_⟩) ?_ ?_
     rotate_left
     ·intro w'
      go_simp
      with_reducible rfl
     rotate_left
     ·simp only [Act.put, List.setIfInBounds_toArray, List.set_cons_zero, List.set_cons_succ, i64_w, i32_w]
      rfl
     refine pure_ (i := 21) (N := some 43) (v := ?_) (a' := ?_) #[true, true, true, true, true, true, true, true, true, true, true, true, true, true, true, true, false, true, true, true, false, true, false, false, false, false, false, false, false, false] rfl rfl (by kernel_rfl) (fun _ _ _ h => h) (Or.inl ⟨by rfl, ?_⟩) ?_ ?_
     rotate_left
     ·intro w'
      go_simp
      with_reducible rfl
     rotate_left
     ·simp only [Act.put, List.setIfInBounds_toArray, List.set_cons_zero, List.set_cons_succ, i64_w, i32_w]
      rfl
     refine pure_ (i := 22) (N := some 44) (v := ?_) (a' := ?_) #[true, true, true, true, true, true, true, true, true, true, true, true, true, true, true, true, false, true, true, true, false, true, true, false, false, false, false, false, false, false] rfl rfl (by kernel_rfl) (fun _ _ _ h => h) (Or.inl ⟨by rfl, ?_⟩) ?_ ?_
     rotate_left
     ·intro w'
      go_simp
      with_reducible rfl
     rotate_left
     ·simp only [Act.put, List.setIfInBounds_toArray, List.set_cons_zero, List.set_cons_succ, i64_w, i32_w]
      rfl
     refine pure_ (i := 23) (N := some 45) (v := ?_) (a' := ?_) #[true, true, true, true, true, true, true, true, true, true, true, true, true, true, true, true, false, true, true, true, false, true, true, true, false, false, false, false, false, false] rfl rfl (by kernel_rfl) (fun _ _ _ h => h) (Or.inl ⟨by rfl, ?_⟩) ?_ ?_
     rotate_left
     ·intro w'
      go_simp
      with_reducible rfl
     rotate_left
     ·simp only [Act.put, List.setIfInBounds_toArray, List.set_cons_zero, List.set_cons_succ, i64_w, i32_w]
      rfl
     refine pure_ (i := 25) (N := some 47) (v := ?_) (a' := ?_) #[true, true, true, true, true, true, true, true, true, true, true, true, true, true, true, true, false, true, true, true, false, true, true, true, false, true, false, false, false, false] rfl rfl (by kernel_rfl) (fun _ _ _ h => h) (Or.inl ⟨by rfl, ?_⟩) ?_ ?_
     rotate_left
     ·intro w'
      go_simp
      with_reducible rfl
     rotate_left
     ·simp only [Act.put, List.setIfInBounds_toArray, List.set_cons_zero, List.set_cons_succ, i64_w, i32_w]
      rfl
     refine take_ (i := 16) (N := some 38) (v := ?_) (a' := ?_) #[true, true, true, true, true, true, true, true, true, true, true, true, true, true, true, true, true, true, true, true, false, true, true, true, false, true, false, false, false, false] rfl rfl (by kernel_rfl) (fun _ _ _ h => h) (Or.inl ⟨by rfl, ?_⟩) hHeld ?_ ?_
     rotate_left
     ·rintro w' ⟨s0, s1⟩
      go_simp
      with_reducible rfl
     rotate_left
     ·simp only [Act.put, List.setIfInBounds_toArray, List.set_cons_zero, List.set_cons_succ, i64_w, i32_w]
      rfl
     refine take_ (i := 20) (N := some 42) (v := ?_) (a' := ?_) #[true, true, true, true, true, true, true, true, true, true, true, true, true, true, true, true, true, true, true, true, true, true, true, true, false, true, false, false, false, false] rfl rfl (by kernel_rfl) (fun _ _ _ h => h) (Or.inl ⟨by rfl, ?_⟩) hHeld ?_ ?_
     rotate_left
     ·rintro w' ⟨s0, s1⟩
      go_simp
      with_reducible rfl
     rotate_left
     ·simp only [Act.put, List.setIfInBounds_toArray, List.set_cons_zero, List.set_cons_succ, i64_w, i32_w]
      rfl
     refine take_ (i := 24) (N := some 46) (v := ?_) (a' := ?_) #[true, true, true, true, true, true, true, true, true, true, true, true, true, true, true, true, true, true, true, true, true, true, true, true, true, true, false, false, false, false] rfl rfl (by kernel_rfl) (fun _ _ _ h => h) (Or.inl ⟨by rfl, ?_⟩) hHeld ?_ ?_
     rotate_left
     ·rintro w' ⟨s0, s1⟩
      go_simp
      with_reducible rfl
     rotate_left
     ·simp only [Act.put, List.setIfInBounds_toArray, List.set_cons_zero, List.set_cons_succ, i64_w, i32_w]
      rfl
     refine pure_ (i := 26) (N := some 48) (v := ?_) (a' := ?_) #[true, true, true, true, true, true, true, true, true, true, true, true, true, true, true, true, true, true, true, true, true, true, true, true, true, true, true, false, false, false] rfl rfl (by kernel_rfl) (fun _ _ _ h => h) (Or.inl ⟨by rfl, ?_⟩) ?_ ?_
     rotate_left
     ·intro w'
      go_simp
      with_reducible rfl
     rotate_left
     ·simp only [Act.put, List.setIfInBounds_toArray, List.set_cons_zero, List.set_cons_succ, i64_w, i32_w]
      rfl
     refine pure_ (i := 27) (N := some 49) (v := ?_) (a' := ?_) #[true, true, true, true, true, true, true, true, true, true, true, true, true, true, true, true, true, true, true, true, true, true, true, true, true, true, true, true, false, false] rfl rfl (by kernel_rfl) (fun _ _ _ h => h) (Or.inl ⟨by rfl, ?_⟩) ?_ ?_
     rotate_left
     ·intro w'
      go_simp
      with_reducible rfl
     rotate_left
     ·simp only [Act.put, List.setIfInBounds_toArray, List.set_cons_zero, List.set_cons_succ, i64_w, i32_w]
      rfl
     refine last_ (i := 28) (N := some 50) #[true, true, true, true, true, true, true, true, true, true, true, true, true, true, true, true, true, true, true, true, true, true, true, true, true, true, true, true, true, false] rfl rfl (by kernel_rfl) (by decide) (fun K hK => ?_)
     refine goes_ Tryd.func58 (by kernel_rfl) rfl #[.string (s.extract at_.toNat (at_ + 2).toNat)] (by rfl) rfl rfl (by simp only [List.map_toArray, List.map_cons, List.map_nil]; rfl) ?_
     with_reducible refine (rop_c _ true HO.out _).mono ?_
     rintro e w1 ⟨rfl, hb⟩
     have H1 := Aside0.mk (Rc.of_below H0.out hb)
     clear hb
     refine ⟨_, rfl, ?_⟩
     refine hK.out _ _ ?_
     clear hK K
     refine norm_ (a' := ?_) ?_ ?_
     rotate_left
     ·show Act.put _ (some 50) _ = _
      simp only [Act.put, List.setIfInBounds_toArray, List.set_cons_zero, List.set_cons_succ, i64_w, i32_w]
      rfl
     refine pure_ (i := 29) (N := some 51) (v := ?_) (a' := ?_) #[true, true, true, true, true, true, true, true, true, true, true, true, true, true, true, true, true, true, true, true, true, true, true, true, true, true, true, true, true, true] rfl rfl (by kernel_rfl) (fun _ _ _ h => h) (Or.inl ⟨by rfl, ?_⟩) ?_ ?_
     rotate_left
     ·intro w'
      go_simp
      with_reducible rfl
     rotate_left
     ·simp only [Act.put, List.setIfInBounds_toArray, List.set_cons_zero, List.set_cons_succ, i64_w, i32_w]
      rfl
     refine done_ (by kernel_rfl) ?_
     have q1 := H1.out.q1
     go_wp2_with (go_at_call 52; (with_reducible refine (rc_add g s at_ line l c 4 (at_ + 2) w0 _ H1.out (by omega) ha (by omega) (by omega)).mono ?_); rintro e w2 ⟨rfl, h2⟩; have H2 := Aside0.mk h2; clear h2)
     go_ret
     obtain ⟨rfl, rfl⟩ := Prod.mk.inj HX.out
     exact ⟨rfl, H2.out⟩
    | false =>
     have HO := Aside0.mk ho
     have HN : Aside0 (¬ opOk s at_ 2) := ⟨fun h => by have := h.2; rw [ho] at this; exact absurd this (by decide)⟩
     clear ho
     go_wp2
     have H0 := Aside0.mk (Rc.drew HH.out)
     refine start_ (n := 30) (S := fun w' => w'.cell? ⟨g, 0, none⟩ = some (.string s) ∧ w'.cell? ⟨g, 1, none⟩ = some (.int .i64 at_)) (ds := [28]) #[false, false, false, false, false, false, false, false, false, false, false, false, false, false, false, false, false, false, false, false, false, false, false, false, false, false, false, false, false, false] (by kernel_rfl) rfl rfl ⟨H0.out.q0, H0.out.q1⟩ (fun hHeld => ?_)
     generalize wr.drew = W1 at H0 hHeld ⊢
     refine pure_ (i := 0) (N := some 22) (v := ?_) (a' := ?_) #[true, false, false, false, false, false, false, false, false, false, false, false, false, false, false, false, false, false, false, false, false, false, false, false, false, false, false, false, false, false] rfl rfl (by kernel_rfl) (fun _ _ _ h => h) (Or.inl ⟨by rfl, ?_⟩) ?_ ?_
     rotate_left
     ·intro w'
      go_simp
      with_reducible rfl
     rotate_left
     ·simp only [Act.put, List.setIfInBounds_toArray, List.set_cons_zero, List.set_cons_succ, i64_w, i32_w]
      rfl
     refine pure_ (i := 1) (N := some 23) (v := ?_) (a' := ?_) #[true, true, false, false, false, false, false, false, false, false, false, false, false, false, false, false, false, false, false, false, false, false, false, false, false, false, false, false, false, false] rfl rfl (by kernel_rfl) (fun _ _ _ h => h) (Or.inl ⟨by rfl, ?_⟩) ?_ ?_
     rotate_left
     ·intro w'
      go_simp
      with_reducible rfl
     rotate_left
     ·simp only [Act.put, List.setIfInBounds_toArray, List.set_cons_zero, List.set_cons_succ, i64_w, i32_w]
      rfl
     refine pure_ (i := 2) (N := some 24) (v := ?_) (a' := ?_) #[true, true, true, false, false, false, false, false, false, false, false, false, false, false, false, false, false, false, false, false, false, false, false, false, false, false, false, false, false, false] rfl rfl (by kernel_rfl) (fun _ _ _ h => h) (Or.inl ⟨by rfl, ?_⟩) ?_ ?_
     rotate_left
     ·intro w'
      go_simp
      with_reducible rfl
     rotate_left
     ·simp only [Act.put, List.setIfInBounds_toArray, List.set_cons_zero, List.set_cons_succ, i64_w, i32_w]
      rfl
     refine pure_ (i := 4) (N := some 26) (v := ?_) (a' := ?_) #[true, true, true, false, true, false, false, false, false, false, false, false, false, false, false, false, false, false, false, false, false, false, false, false, false, false, false, false, false, false] rfl rfl (by kernel_rfl) (fun _ _ _ h => h) (Or.inl ⟨by rfl, ?_⟩) ?_ ?_
     rotate_left
     ·intro w'
      go_simp
      with_reducible rfl
     rotate_left
     ·simp only [Act.put, List.setIfInBounds_toArray, List.set_cons_zero, List.set_cons_succ, i64_w, i32_w]
      rfl
     refine pure_ (i := 6) (N := some 28) (v := ?_) (a' := ?_) #[true, true, true, false, true, false, true, false, false, false, false, false, false, false, false, false, false, false, false, false, false, false, false, false, false, false, false, false, false, false] rfl rfl (by kernel_rfl) (fun _ _ _ h => h) (Or.inl ⟨by rfl, ?_⟩) ?_ ?_
     rotate_left
     ·intro w'
      go_simp
      with_reducible rfl
     rotate_left
     ·simp only [Act.put, List.setIfInBounds_toArray, List.set_cons_zero, List.set_cons_succ, i64_w, i32_w]
      rfl
     refine pure_ (i := 7) (N := some 29) (v := ?_) (a' := ?_) #[true, true, true, false, true, false, true, true, false, false, false, false, false, false, false, false, false, false, false, false, false, false, false, false, false, false, false, false, false, false] rfl rfl (by kernel_rfl) (fun _ _ _ h => h) (Or.inl ⟨by rfl, ?_⟩) ?_ ?_
     rotate_left
     ·intro w'
      go_simp
      with_reducible rfl
     rotate_left
     ·simp only [Act.put, List.setIfInBounds_toArray, List.set_cons_zero, List.set_cons_succ, i64_w, i32_w]
      rfl
     refine pure_ (i := 8) (N := some 30) (v := ?_) (a' := ?_) #[true, true, true, false, true, false, true, true, true, false, false, false, false, false, false, false, false, false, false, false, false, false, false, false, false, false, false, false, false, false] rfl rfl (by kernel_rfl) (fun _ _ _ h => h) (Or.inl ⟨by rfl, ?_⟩) ?_ ?_
     rotate_left
     ·intro w'
      go_simp
      with_reducible rfl
     rotate_left
     ·simp only [Act.put, List.setIfInBounds_toArray, List.set_cons_zero, List.set_cons_succ, i64_w, i32_w]
      rfl
     refine take_ (i := 3) (N := some 25) (v := ?_) (a' := ?_) #[true, true, true, true, true, false, true, true, true, false, false, false, false, false, false, false, false, false, false, false, false, false, false, false, false, false, false, false, false, false] rfl rfl (by kernel_rfl) (fun _ _ _ h => h) (Or.inl ⟨by rfl, ?_⟩) hHeld ?_ ?_
     rotate_left
     ·rintro w' ⟨s0, s1⟩
      go_simp
      with_reducible rfl
     rotate_left
     ·simp only [Act.put, List.setIfInBounds_toArray, List.set_cons_zero, List.set_cons_succ, i64_w, i32_w]
      rfl
     refine pure_ (i := 5) (N := some 27) (v := ?_) (a' := ?_) #[true, true, true, true, true, true, true, true, true, false, false, false, false, false, false, false, false, false, false, false, false, false, false, false, false, false, false, false, false, false] rfl rfl (by kernel_rfl) (fun _ _ _ h => h) (Or.inl ⟨by rfl, ?_⟩) ?_ ?_
     rotate_left
     ·intro w'
      go_simp
      with_reducible rfl
     rotate_left
     ·simp only [Act.put, List.setIfInBounds_toArray, List.set_cons_zero, List.set_cons_succ, i64_w, i32_w]
      rfl
     refine take_ (i := 9) (N := some 31) (v := ?_) (a' := ?_) #[true, true, true, true, true, true, true, true, true, true, false, false, false, false, false, false, false, false, false, false, false, false, false, false, false, false, false, false, false, false] rfl rfl (by kernel_rfl) (fun _ _ _ h => h) (Or.inl ⟨by rfl, ?_⟩) hHeld ?_ ?_
     rotate_left
     ·rintro w' ⟨s0, s1⟩
      go_simp
      with_reducible rfl
     rotate_left
     ·simp only [Act.put, List.setIfInBounds_toArray, List.set_cons_zero, List.set_cons_succ, i64_w, i32_w]
      rfl
     refine pure_ (i := 10) (N := some 32) (v := ?_) (a' := ?_) #[true, true, true, true, true, true, true, true, true, true, true, false, false, false, false, false, false, false, false, false, false, false, false, false, false, false, false, false, false, false] rfl rfl (by kernel_rfl) (fun _ _ _ h => h) (Or.inl ⟨by rfl, ?_⟩) ?_ ?_
     rotate_left
     ·intro w'
      go_simp
      with_reducible rfl
     rotate_left
     ·simp only [Act.put, List.setIfInBounds_toArray, List.set_cons_zero, List.set_cons_succ, i64_w, i32_w]
      rfl
     refine pure_ (i := 11) (N := some 33) (v := ?_) (a' := ?_) #[true, true, true, true, true, true, true, true, true, true, true, true, false, false, false, false, false, false, false, false, false, false, false, false, false, false, false, false, false, false] rfl rfl (by kernel_rfl) (fun _ _ _ h => h) (Or.inl ⟨by rfl, ?_⟩) ?_ ?_
     rotate_left
     ·intro w'
      go_simp
      with_reducible rfl
     rotate_left
     ·simp only [Act.put, List.setIfInBounds_toArray, List.set_cons_zero, List.set_cons_succ, i64_w, i32_w]
      rfl
     refine pure_ (i := 12) (N := some 34) (v := ?_) (a' := ?_) #[true, true, true, true, true, true, true, true, true, true, true, true, true, false, false, false, false, false, false, false, false, false, false, false, false, false, false, false, false, false] rfl rfl (by kernel_rfl) (fun _ _ _ h => h) (Or.inl ⟨by rfl, ?_⟩) ?_ ?_
     rotate_left
     ·intro w'
      go_simp
      with_reducible rfl
     rotate_left
     ·simp only [Act.put, List.setIfInBounds_toArray, List.set_cons_zero, List.set_cons_succ, i64_w, i32_w]
      rfl
     refine pure_ (i := 13) (N := some 35) (v := ?_) (a' := ?_) #[true, true, true, true, true, true, true, true, true, true, true, true, true, true, false, false, false, false, false, false, false, false, false, false, false, false, false, false, false, false] rfl rfl (by kernel_rfl) (fun _ _ _ h => h) (Or.inl ⟨by rfl, ?_⟩) ?_ ?_
     rotate_left
     ·intro w'
      go_simp
      with_reducible rfl
     rotate_left
     ·simp only [Act.put, List.setIfInBounds_toArray, List.set_cons_zero, List.set_cons_succ, i64_w, i32_w]
      rfl
     refine pure_ (i := 14) (N := some 36) (v := ?_) (a' := ?_) #[true, true, true, true, true, true, true, true, true, true, true, true, true, true, true, false, false, false, false, false, false, false, false, false, false, false, false, false, false, false] rfl rfl (by kernel_rfl) (fun _ _ _ h => h) (Or.inl ⟨by rfl, ?_⟩) ?_ ?_
     rotate_left
     ·intro w'
      go_simp
      with_reducible rfl
     rotate_left
     ·simp only [Act.put, List.setIfInBounds_toArray, List.set_cons_zero, List.set_cons_succ, i64_w, i32_w]
      rfl
     refine pure_ (i := 15) (N := some 37) (v := ?_) (a' := ?_) #[true, true, true, true, true, true, true, true, true, true, true, true, true, true, true, true, false, false, false, false, false, false, false, false, false, false, false, false, false, false] rfl rfl (by kernel_rfl) (fun _ _ _ h => h) (Or.inl ⟨by rfl, ?_⟩) ?_ ?_
     rotate_left
     ·intro w'
      go_simp
      with_reducible rfl
     rotate_left
     ·simp only [Act.put, List.setIfInBounds_toArray, List.set_cons_zero, List.set_cons_succ, i64_w, i32_w]
      rfl
     refine pure_ (i := 17) (N := some 39) (v := ?_) (a' := ?_) #[true, true, true, true, true, true, true, true, true, true, true, true, true, true, true, true, false, true, false, false, false, false, false, false, false, false, false, false, false, false] rfl rfl (by kernel_rfl) (fun _ _ _ h => h) (Or.inl ⟨by rfl, ?_⟩) ?_ ?_
     rotate_left
     ·intro w'
      go_simp
      with_reducible rfl
     rotate_left
     ·simp only [Act.put, List.setIfInBounds_toArray, List.set_cons_zero, List.set_cons_succ, i64_w, i32_w]
      rfl
     refine pure_ (i := 18) (N := some 40) (v := ?_) (a' := ?_) #[true, true, true, true, true, true, true, true, true, true, true, true, true, true, true, true, false, true, true, false, false, false, false, false, false, false, false, false, false, false] rfl rfl (by kernel_rfl) (fun _ _ _ h => h) (Or.inl ⟨by rfl, ?_⟩) ?_ ?_
     rotate_left
     ·intro w'
      go_simp
      with_reducible rfl
     rotate_left
     ·simp only [Act.put, List.setIfInBounds_toArray, List.set_cons_zero, List.set_cons_succ, i64_w, i32_w]
      rfl
     refine pure_ (i := 19) (N := some 41) (v := ?_) (a' := ?_) #[true, true, true, true, true, true, true, true, true, true, true, true, true, true, true, true, false, true, true, true, false, false, false, false, false, false, false, false, false, false] rfl rfl (by kernel_rfl) (fun _ _ _ h => h) (Or.inl ⟨by rfl, ?_⟩) ?_ ?_
     rotate_left
     ·intro w'
      go_simp
      with_reducible rfl
     rotate_left
     ·simp only [Act.put, List.setIfInBounds_toArray, List.set_cons_zero, List.set_cons_succ, i64_w, i32_w]
      rfl
     refine pure_ (i := 21) (N := some 43) (v := ?_) (a' := ?_) #[true, true, true, true, true, true, true, true, true, true, true, true, true, true, true, true, false, true, true, true, false, true, false, false, false, false, false, false, false, false] rfl rfl (by kernel_rfl) (fun _ _ _ h => h) (Or.inl ⟨by rfl, ?_⟩) ?_ ?_
     rotate_left
     ·intro w'
      go_simp
      with_reducible rfl
     rotate_left
     ·simp only [Act.put, List.setIfInBounds_toArray, List.set_cons_zero, List.set_cons_succ, i64_w, i32_w]
      rfl
     refine pure_ (i := 22) (N := some 44) (v := ?_) (a' := ?_) #[true, true, true, true, true, true, true, true, true, true, true, true, true, true, true, true, false, true, true, true, false, true, true, false, false, false, false, false, false, false] rfl rfl (by kernel_rfl) (fun _ _ _ h => h) (Or.inl ⟨by rfl, ?_⟩) ?_ ?_
     rotate_left
     ·intro w'
      go_simp
      with_reducible rfl
     rotate_left
     ·simp only [Act.put, List.setIfInBounds_toArray, List.set_cons_zero, List.set_cons_succ, i64_w, i32_w]
      rfl
     refine pure_ (i := 23) (N := some 45) (v := ?_) (a' := ?_) #[true, true, true, true, true, true, true, true, true, true, true, true, true, true, true, true, false, true, true, true, false, true, true, true, false, false, false, false, false, false] rfl rfl (by kernel_rfl) (fun _ _ _ h => h) (Or.inl ⟨by rfl, ?_⟩) ?_ ?_
     rotate_left
     ·intro w'
      go_simp
      with_reducible rfl
     rotate_left
     ·simp only [Act.put, List.setIfInBounds_toArray, List.set_cons_zero, List.set_cons_succ, i64_w, i32_w]
      rfl
     refine pure_ (i := 25) (N := some 47) (v := ?_) (a' := ?_) #[true, true, true, true, true, true, true, true, true, true, true, true, true, true, true, true, false, true, true, true, false, true, true, true, false, true, false, false, false, false] rfl rfl (by kernel_rfl) (fun _ _ _ h => h) (Or.inl ⟨by rfl, ?_⟩) ?_ ?_
     rotate_left
     ·intro w'
      go_simp
      with_reducible rfl
     rotate_left
     ·simp only [Act.put, List.setIfInBounds_toArray, List.set_cons_zero, List.set_cons_succ, i64_w, i32_w]
      rfl
     refine take_ (i := 16) (N := some 38) (v := ?_) (a' := ?_) #[true, true, true, true, true, true, true, true, true, true, true, true, true, true, true, true, true, true, true, true, false, true, true, true, false, true, false, false, false, false] rfl rfl (by kernel_rfl) (fun _ _ _ h => h) (Or.inl ⟨by rfl, ?_⟩) hHeld ?_ ?_
     rotate_left
     ·rintro w' ⟨s0, s1⟩
      go_simp
      with_reducible rfl
     rotate_left
     ·simp only [Act.put, List.setIfInBounds_toArray, List.set_cons_zero, List.set_cons_succ, i64_w, i32_w]
      rfl
     refine take_ (i := 20) (N := some 42) (v := ?_) (a' := ?_) #[true, true, true, true, true, true, true, true, true, true, true, true, true, true, true, true, true, true, true, true, true, true, true, true, false, true, false, false, false, false] rfl rfl (by kernel_rfl) (fun _ _ _ h => h) (Or.inl ⟨by rfl, ?_⟩) hHeld ?_ ?_
     rotate_left
     ·rintro w' ⟨s0, s1⟩
      go_simp
      with_reducible rfl
     rotate_left
     ·simp only [Act.put, List.setIfInBounds_toArray, List.set_cons_zero, List.set_cons_succ, i64_w, i32_w]
      rfl
     refine take_ (i := 24) (N := some 46) (v := ?_) (a' := ?_) #[true, true, true, true, true, true, true, true, true, true, true, true, true, true, true, true, true, true, true, true, true, true, true, true, true, true, false, false, false, false] rfl rfl (by kernel_rfl) (fun _ _ _ h => h) (Or.inl ⟨by rfl, ?_⟩) hHeld ?_ ?_
     rotate_left
     ·rintro w' ⟨s0, s1⟩
      go_simp
      with_reducible rfl
     rotate_left
     ·simp only [Act.put, List.setIfInBounds_toArray, List.set_cons_zero, List.set_cons_succ, i64_w, i32_w]
      rfl
     refine pure_ (i := 26) (N := some 48) (v := ?_) (a' := ?_) #[true, true, true, true, true, true, true, true, true, true, true, true, true, true, true, true, true, true, true, true, true, true, true, true, true, true, true, false, false, false] rfl rfl (by kernel_rfl) (fun _ _ _ h => h) (Or.inl ⟨by rfl, ?_⟩) ?_ ?_
     rotate_left
     ·intro w'
      go_simp
      with_reducible rfl
     rotate_left
     ·simp only [Act.put, List.setIfInBounds_toArray, List.set_cons_zero, List.set_cons_succ, i64_w, i32_w]
      rfl
     refine pure_ (i := 27) (N := some 49) (v := ?_) (a' := ?_) #[true, true, true, true, true, true, true, true, true, true, true, true, true, true, true, true, true, true, true, true, true, true, true, true, true, true, true, true, false, false] rfl rfl (by kernel_rfl) (fun _ _ _ h => h) (Or.inl ⟨by rfl, ?_⟩) ?_ ?_
     rotate_left
     ·intro w'
      go_simp
      with_reducible rfl
     rotate_left
     ·simp only [Act.put, List.setIfInBounds_toArray, List.set_cons_zero, List.set_cons_succ, i64_w, i32_w]
      rfl
     refine last_ (i := 28) (N := some 50) #[true, true, true, true, true, true, true, true, true, true, true, true, true, true, true, true, true, true, true, true, true, true, true, true, true, true, true, true, true, false] rfl rfl (by kernel_rfl) (by decide) (fun K hK => ?_)
     refine goes_ Tryd.func58 (by kernel_rfl) rfl #[.string (s.extract at_.toNat (at_ + 2).toNat)] (by rfl) rfl rfl (by simp only [List.map_toArray, List.map_cons, List.map_nil]; rfl) ?_
     with_reducible refine (rop_c _ false HO.out _).mono ?_
     rintro e w1 ⟨rfl, hb⟩
     have H1 := Aside0.mk (Rc.of_below H0.out hb)
     clear hb
     refine ⟨_, rfl, ?_⟩
     refine hK.out _ _ ?_
     clear hK K
     refine norm_ (a' := ?_) ?_ ?_
     rotate_left
     ·show Act.put _ (some 50) _ = _
      simp only [Act.put, List.setIfInBounds_toArray, List.set_cons_zero, List.set_cons_succ, i64_w, i32_w]
      rfl
     refine pure_ (i := 29) (N := some 51) (v := ?_) (a' := ?_) #[true, true, true, true, true, true, true, true, true, true, true, true, true, true, true, true, true, true, true, true, true, true, true, true, true, true, true, true, true, true] rfl rfl (by kernel_rfl) (fun _ _ _ h => h) (Or.inl ⟨by rfl, ?_⟩) ?_ ?_
     rotate_left
     ·intro w'
      go_simp
      with_reducible rfl
     rotate_left
     ·simp only [Act.put, List.setIfInBounds_toArray, List.set_cons_zero, List.set_cons_succ, i64_w, i32_w]
      rfl
     refine done_ (by kernel_rfl) ?_
     go_wp2
     go_roundw
     case rel => exact ⟨.inr (.inl ⟨rfl, HN⟩), ⟨H1.out⟩⟩
     case measure => simp [intOf]
   ·have b1 : decide (at_ + 2 ≤ (s.size : Int)) = false := decide_eq_false (by omega)
    have HN : Aside0 (¬ opOk s at_ 2) := ⟨fun h => g1 h.1⟩
    go_wp2
    have H0 := Aside0.mk (Rc.drew HH.out)
    refine start_ (n := 30) (S := fun w' => w'.cell? ⟨g, 0, none⟩ = some (.string s) ∧ w'.cell? ⟨g, 1, none⟩ = some (.int .i64 at_)) (ds := []) #[false, false, false, false, false, false, false, false, false, false, false, false, false, false, false, false, false, false, false, false, false, false, false, false, false, false, false, false, false, false] (by kernel_rfl) rfl rfl ⟨H0.out.q0, H0.out.q1⟩ (fun hHeld => ?_)
    generalize wr.drew = W1 at H0 hHeld ⊢
    refine pure_ (i := 0) (N := some 22) (v := ?_) (a' := ?_) #[true, false, false, false, false, false, false, false, false, false, false, false, false, false, false, false, false, false, false, false, false, false, false, false, false, false, false, false, false, false] rfl rfl (by kernel_rfl) (fun _ _ _ h => h) (Or.inl ⟨by rfl, ?_⟩) ?_ ?_
    rotate_left
    ·intro w'
     go_simp
     with_reducible rfl
    rotate_left
    ·simp only [Act.put, List.setIfInBounds_toArray, List.set_cons_zero, List.set_cons_succ, i64_w, i32_w]
     rfl
    refine pure_ (i := 1) (N := some 23) (v := ?_) (a' := ?_) #[true, true, false, false, false, false, false, false, false, false, false, false, false, false, false, false, false, false, false, false, false, false, false, false, false, false, false, false, false, false] rfl rfl (by kernel_rfl) (fun _ _ _ h => h) (Or.inl ⟨by rfl, ?_⟩) ?_ ?_
    rotate_left
    ·intro w'
     go_simp
     with_reducible rfl
    rotate_left
    ·simp only [Act.put, List.setIfInBounds_toArray, List.set_cons_zero, List.set_cons_succ, i64_w, i32_w]
     rfl
    refine pure_ (i := 2) (N := some 24) (v := ?_) (a' := ?_) #[true, true, true, false, false, false, false, false, false, false, false, false, false, false, false, false, false, false, false, false, false, false, false, false, false, false, false, false, false, false] rfl rfl (by kernel_rfl) (fun _ _ _ h => h) (Or.inl ⟨by rfl, ?_⟩) ?_ ?_
    rotate_left
    ·intro w'
     go_simp
     with_reducible rfl
    rotate_left
    ·simp only [Act.put, List.setIfInBounds_toArray, List.set_cons_zero, List.set_cons_succ, i64_w, i32_w]
     rfl
    refine pure_ (i := 4) (N := some 26) (v := ?_) (a' := ?_) #[true, true, true, false, true, false, false, false, false, false, false, false, false, false, false, false, false, false, false, false, false, false, false, false, false, false, false, false, false, false] rfl rfl (by kernel_rfl) (fun _ _ _ h => h) (Or.inl ⟨by rfl, ?_⟩) ?_ ?_
    rotate_left
    ·intro w'
     go_simp
     with_reducible rfl
    rotate_left
    ·simp only [Act.put, List.setIfInBounds_toArray, List.set_cons_zero, List.set_cons_succ, i64_w, i32_w]
     rfl
    refine pure_ (i := 6) (N := some 28) (v := ?_) (a' := ?_) #[true, true, true, false, true, false, true, false, false, false, false, false, false, false, false, false, false, false, false, false, false, false, false, false, false, false, false, false, false, false] rfl rfl (by kernel_rfl) (fun _ _ _ h => h) (Or.inl ⟨by rfl, ?_⟩) ?_ ?_
    rotate_left
    ·intro w'
     go_simp
     with_reducible rfl
    rotate_left
    ·simp only [Act.put, List.setIfInBounds_toArray, List.set_cons_zero, List.set_cons_succ, i64_w, i32_w]
     rfl
    refine pure_ (i := 7) (N := some 29) (v := ?_) (a' := ?_) #[true, true, true, false, true, false, true, true, false, false, false, false, false, false, false, false, false, false, false, false, false, false, false, false, false, false, false, false, false, false] rfl rfl (by kernel_rfl) (fun _ _ _ h => h) (Or.inl ⟨by rfl, ?_⟩) ?_ ?_
    rotate_left
    ·intro w'
     go_simp
     with_reducible rfl
    rotate_left
    ·simp only [Act.put, List.setIfInBounds_toArray, List.set_cons_zero, List.set_cons_succ, i64_w, i32_w]
     rfl
    refine pure_ (i := 8) (N := some 30) (v := ?_) (a' := ?_) #[true, true, true, false, true, false, true, true, true, false, false, false, false, false, false, false, false, false, false, false, false, false, false, false, false, false, false, false, false, false] rfl rfl (by kernel_rfl) (fun _ _ _ h => h) (Or.inl ⟨by rfl, ?_⟩) ?_ ?_
    rotate_left
    ·intro w'
     go_simp
     with_reducible rfl
    rotate_left
    ·simp only [Act.put, List.setIfInBounds_toArray, List.set_cons_zero, List.set_cons_succ, i64_w, i32_w]
     rfl
    refine take_ (i := 3) (N := some 25) (v := ?_) (a' := ?_) #[true, true, true, true, true, false, true, true, true, false, false, false, false, false, false, false, false, false, false, false, false, false, false, false, false, false, false, false, false, false] rfl rfl (by kernel_rfl) (fun _ _ _ h => h) (Or.inl ⟨by rfl, ?_⟩) hHeld ?_ ?_
    rotate_left
    ·rintro w' ⟨s0, s1⟩
     go_simp
     with_reducible rfl
    rotate_left
    ·simp only [Act.put, List.setIfInBounds_toArray, List.set_cons_zero, List.set_cons_succ, i64_w, i32_w]
     rfl
    refine pure_ (i := 5) (N := some 27) (v := ?_) (a' := ?_) #[true, true, true, true, true, true, true, true, true, false, false, false, false, false, false, false, false, false, false, false, false, false, false, false, false, false, false, false, false, false] rfl rfl (by kernel_rfl) (fun _ _ _ h => h) (Or.inl ⟨by rfl, ?_⟩) ?_ ?_
    rotate_left
    ·intro w'
     go_simp
     with_reducible rfl
    rotate_left
    ·simp only [Act.put, List.setIfInBounds_toArray, List.set_cons_zero, List.set_cons_succ, i64_w, i32_w]
     rfl
    refine take_ (i := 9) (N := some 31) (v := ?_) (a' := ?_) #[true, true, true, true, true, true, true, true, true, true, false, false, false, false, false, false, false, false, false, false, false, false, false, false, false, false, false, false, false, false] rfl rfl (by kernel_rfl) (fun _ _ _ h => h) (Or.inl ⟨by rfl, ?_⟩) hHeld ?_ ?_
    rotate_left
    ·rintro w' ⟨s0, s1⟩
     go_simp
     with_reducible rfl
    rotate_left
    ·simp only [Act.put, List.setIfInBounds_toArray, List.set_cons_zero, List.set_cons_succ, i64_w, i32_w]
     rfl
    refine pure_ (i := 10) (N := some 32) (v := ?_) (a' := ?_) #[true, true, true, true, true, true, true, true, true, true, true, false, false, false, false, false, false, false, false, false, false, false, false, false, false, false, false, false, false, false] rfl rfl (by kernel_rfl) (fun _ _ _ h => h) (Or.inl ⟨by rfl, ?_⟩) ?_ ?_
    rotate_left
    ·intro w'
     go_simp
     with_reducible rfl
    rotate_left
    ·simp only [Act.put, List.setIfInBounds_toArray, List.set_cons_zero, List.set_cons_succ, i64_w, i32_w]
     rfl
    refine pure_ (i := 11) (N := some 33) (v := ?_) (a' := ?_) #[true, true, true, true, true, true, true, true, true, true, true, true, false, false, false, false, false, false, false, false, false, false, false, false, false, false, false, false, false, false] rfl rfl (by kernel_rfl) (fun _ _ _ h => h) (Or.inl ⟨by rfl, ?_⟩) ?_ ?_
    rotate_left
    ·intro w'
     go_simp
     with_reducible rfl
    rotate_left
    ·simp only [Act.put, List.setIfInBounds_toArray, List.set_cons_zero, List.set_cons_succ, i64_w, i32_w]
     rfl
    refine pure_ (i := 12) (N := some 34) (v := ?_) (a' := ?_) #[true, true, true, true, true, true, true, true, true, true, true, true, true, false, false, false, false, false, false, false, false, false, false, false, false, false, false, false, false, false] rfl rfl (by kernel_rfl) (fun _ _ _ h => h) (Or.inl ⟨by rfl, ?_⟩) ?_ ?_
    rotate_left
    ·intro w'
     go_simp
     with_reducible rfl
    rotate_left
    ·simp only [Act.put, List.setIfInBounds_toArray, List.set_cons_zero, List.set_cons_succ, i64_w, i32_w]
     rfl
    refine pure_ (i := 13) (N := some 35) (v := undef) (a' := ?_) #[true, true, true, true, true, true, true, true, true, true, true, true, true, true, false, false, false, false, false, false, false, false, false, false, false, false, false, false, false, false] rfl rfl (by kernel_rfl) (fun _ _ _ h => h) (Or.inr ⟨by rfl, rfl⟩) ?_ ?_
    rotate_left
    ·simp only [Act.put, List.setIfInBounds_toArray, List.set_cons_zero, List.set_cons_succ, i64_w, i32_w]
     rfl
    refine pure_ (i := 14) (N := some 36) (v := undef) (a' := ?_) #[true, true, true, true, true, true, true, true, true, true, true, true, true, true, true, false, false, false, false, false, false, false, false, false, false, false, false, false, false, false] rfl rfl (by kernel_rfl) (fun _ _ _ h => h) (Or.inr ⟨by rfl, rfl⟩) ?_ ?_
    rotate_left
    ·simp only [Act.put, List.setIfInBounds_toArray, List.set_cons_zero, List.set_cons_succ, i64_w, i32_w]
     rfl
    refine pure_ (i := 15) (N := some 37) (v := undef) (a' := ?_) #[true, true, true, true, true, true, true, true, true, true, true, true, true, true, true, true, false, false, false, false, false, false, false, false, false, false, false, false, false, false] rfl rfl (by kernel_rfl) (fun _ _ _ h => h) (Or.inr ⟨by rfl, rfl⟩) ?_ ?_
    rotate_left
    ·simp only [Act.put, List.setIfInBounds_toArray, List.set_cons_zero, List.set_cons_succ, i64_w, i32_w]
     rfl
    refine pure_ (i := 16) (N := some 38) (v := undef) (a' := ?_) #[true, true, true, true, true, true, true, true, true, true, true, true, true, true, true, true, true, false, false, false, false, false, false, false, false, false, false, false, false, false] rfl rfl (by kernel_rfl) (fun _ _ _ h => h) (Or.inr ⟨by rfl, rfl⟩) ?_ ?_
    rotate_left
    ·simp only [Act.put, List.setIfInBounds_toArray, List.set_cons_zero, List.set_cons_succ, i64_w, i32_w]
     rfl
    refine pure_ (i := 17) (N := some 39) (v := undef) (a' := ?_) #[true, true, true, true, true, true, true, true, true, true, true, true, true, true, true, true, true, true, false, false, false, false, false, false, false, false, false, false, false, false] rfl rfl (by kernel_rfl) (fun _ _ _ h => h) (Or.inr ⟨by rfl, rfl⟩) ?_ ?_
    rotate_left
    ·simp only [Act.put, List.setIfInBounds_toArray, List.set_cons_zero, List.set_cons_succ, i64_w, i32_w]
     rfl
    refine pure_ (i := 18) (N := some 40) (v := undef) (a' := ?_) #[true, true, true, true, true, true, true, true, true, true, true, true, true, true, true, true, true, true, true, false, false, false, false, false, false, false, false, false, false, false] rfl rfl (by kernel_rfl) (fun _ _ _ h => h) (Or.inr ⟨by rfl, rfl⟩) ?_ ?_
    rotate_left
    ·simp only [Act.put, List.setIfInBounds_toArray, List.set_cons_zero, List.set_cons_succ, i64_w, i32_w]
     rfl
    refine pure_ (i := 19) (N := some 41) (v := undef) (a' := ?_) #[true, true, true, true, true, true, true, true, true, true, true, true, true, true, true, true, true, true, true, true, false, false, false, false, false, false, false, false, false, false] rfl rfl (by kernel_rfl) (fun _ _ _ h => h) (Or.inr ⟨by rfl, rfl⟩) ?_ ?_
    rotate_left
    ·simp only [Act.put, List.setIfInBounds_toArray, List.set_cons_zero, List.set_cons_succ, i64_w, i32_w]
     rfl
    refine pure_ (i := 20) (N := some 42) (v := undef) (a' := ?_) #[true, true, true, true, true, true, true, true, true, true, true, true, true, true, true, true, true, true, true, true, true, false, false, false, false, false, false, false, false, false] rfl rfl (by kernel_rfl) (fun _ _ _ h => h) (Or.inr ⟨by rfl, rfl⟩) ?_ ?_
    rotate_left
    ·simp only [Act.put, List.setIfInBounds_toArray, List.set_cons_zero, List.set_cons_succ, i64_w, i32_w]
     rfl
    refine pure_ (i := 21) (N := some 43) (v := undef) (a' := ?_) #[true, true, true, true, true, true, true, true, true, true, true, true, true, true, true, true, true, true, true, true, true, true, false, false, false, false, false, false, false, false] rfl rfl (by kernel_rfl) (fun _ _ _ h => h) (Or.inr ⟨by rfl, rfl⟩) ?_ ?_
    rotate_left
    ·simp only [Act.put, List.setIfInBounds_toArray, List.set_cons_zero, List.set_cons_succ, i64_w, i32_w]
     rfl
    refine pure_ (i := 22) (N := some 44) (v := undef) (a' := ?_) #[true, true, true, true, true, true, true, true, true, true, true, true, true, true, true, true, true, true, true, true, true, true, true, false, false, false, false, false, false, false] rfl rfl (by kernel_rfl) (fun _ _ _ h => h) (Or.inr ⟨by rfl, rfl⟩) ?_ ?_
    rotate_left
    ·simp only [Act.put, List.setIfInBounds_toArray, List.set_cons_zero, List.set_cons_succ, i64_w, i32_w]
     rfl
    refine pure_ (i := 23) (N := some 45) (v := undef) (a' := ?_) #[true, true, true, true, true, true, true, true, true, true, true, true, true, true, true, true, true, true, true, true, true, true, true, true, false, false, false, false, false, false] rfl rfl (by kernel_rfl) (fun _ _ _ h => h) (Or.inr ⟨by rfl, rfl⟩) ?_ ?_
    rotate_left
    ·simp only [Act.put, List.setIfInBounds_toArray, List.set_cons_zero, List.set_cons_succ, i64_w, i32_w]
     rfl
    refine pure_ (i := 24) (N := some 46) (v := undef) (a' := ?_) #[true, true, true, true, true, true, true, true, true, true, true, true, true, true, true, true, true, true, true, true, true, true, true, true, true, false, false, false, false, false] rfl rfl (by kernel_rfl) (fun _ _ _ h => h) (Or.inr ⟨by rfl, rfl⟩) ?_ ?_
    rotate_left
    ·simp only [Act.put, List.setIfInBounds_toArray, List.set_cons_zero, List.set_cons_succ, i64_w, i32_w]
     rfl
    refine pure_ (i := 25) (N := some 47) (v := undef) (a' := ?_) #[true, true, true, true, true, true, true, true, true, true, true, true, true, true, true, true, true, true, true, true, true, true, true, true, true, true, false, false, false, false] rfl rfl (by kernel_rfl) (fun _ _ _ h => h) (Or.inr ⟨by rfl, rfl⟩) ?_ ?_
    rotate_left
    ·simp only [Act.put, List.setIfInBounds_toArray, List.set_cons_zero, List.set_cons_succ, i64_w, i32_w]
     rfl
    refine pure_ (i := 26) (N := some 48) (v := undef) (a' := ?_) #[true, true, true, true, true, true, true, true, true, true, true, true, true, true, true, true, true, true, true, true, true, true, true, true, true, true, true, false, false, false] rfl rfl (by kernel_rfl) (fun _ _ _ h => h) (Or.inr ⟨by rfl, rfl⟩) ?_ ?_
    rotate_left
    ·simp only [Act.put, List.setIfInBounds_toArray, List.set_cons_zero, List.set_cons_succ, i64_w, i32_w]
     rfl
    refine pure_ (i := 27) (N := some 49) (v := undef) (a' := ?_) #[true, true, true, true, true, true, true, true, true, true, true, true, true, true, true, true, true, true, true, true, true, true, true, true, true, true, true, true, false, false] rfl rfl (by kernel_rfl) (fun _ _ _ h => h) (Or.inr ⟨by rfl, rfl⟩) ?_ ?_
    rotate_left
    ·simp only [Act.put, List.setIfInBounds_toArray, List.set_cons_zero, List.set_cons_succ, i64_w, i32_w]
     rfl
    refine pure_ (i := 28) (N := some 50) (v := undef) (a' := ?_) #[true, true, true, true, true, true, true, true, true, true, true, true, true, true, true, true, true, true, true, true, true, true, true, true, true, true, true, true, true, false] rfl rfl (by kernel_rfl) (fun _ _ _ h => h) (Or.inr ⟨by rfl, rfl⟩) ?_ ?_
    rotate_left
    ·simp only [Act.put, List.setIfInBounds_toArray, List.set_cons_zero, List.set_cons_succ, i64_w, i32_w]
     rfl
    refine pure_ (i := 29) (N := some 51) (v := ?_) (a' := ?_) #[true, true, true, true, true, true, true, true, true, true, true, true, true, true, true, true, true, true, true, true, true, true, true, true, true, true, true, true, true, true] rfl rfl (by kernel_rfl) (fun _ _ _ h => h) (Or.inl ⟨by rfl, ?_⟩) ?_ ?_
    rotate_left
    ·intro w'
     go_simp
     with_reducible rfl
    rotate_left
    ·simp only [Act.put, List.setIfInBounds_toArray, List.set_cons_zero, List.set_cons_succ, i64_w, i32_w]
     rfl
    refine done_ (by kernel_rfl) ?_
    go_wp2
    go_roundw
    case rel => exact ⟨.inr (.inl ⟨rfl, HN⟩), ⟨H0.out⟩⟩
    case measure => simp [intOf]
  ·skip
   have e2 : IntKind.i64.wrap (at_ + 1) = at_ + 1 := IntWalk.i64_in _ (by omega)
   by_cases g1 : at_ + 1 ≤ (s.size : Int)
   ·have b1 : decide (at_ + 1 ≤ (s.size : Int)) = true := decide_eq_true (by omega)
    have p1 : 0 ≤ at_ + 1 := by omega
    have p2 : at_ ≤ at_ + 1 := by omega
    have b2 : decide (0 ≤ at_) = true := decide_eq_true ha
    have b3 : decide (at_ ≤ at_ + 1) = true := decide_eq_true p2
    cases ho : opP (s.extract at_.toNat (at_ + 1).toNat) with
    | true =>
     have HO := Aside0.mk ho
     have HX : Aside0 ((true, addP s at_ line l c 4 (at_ + 1)) = (b, x)) := ⟨by have := HS.out; rw [if_neg hno.out, if_pos (show opOk s at_ 1 from ⟨g1, ho⟩)] at this; exact this⟩
     clear ho
     go_wp2
     have H0 := Aside0.mk (Rc.drew HH.out)
     refine start_ (n := 30) (S := fun w' => w'.cell? ⟨g, 0, none⟩ = some (.string s) ∧ w'.cell? ⟨g, 1, none⟩ = some (.int .i64 at_)) (ds := [28]) #[false, false, false, false, false, false, false, false, false, false, false, false, false, false, false, false, false, false, false, false, false, false, false, false, false, false, false, false, false, false] (by kernel_rfl) rfl rfl ⟨H0.out.q0, H0.out.q1⟩ (fun hHeld => ?_)
     generalize wr.drew = W1 at H0 hHeld ⊢
     refine pure_ (i := 0) (N := some 22) (v := ?_) (a' := ?_) #[true, false, false, false, false, false, false, false, false, false, false, false, false, false, false, false, false, false, false, false, false, false, false, false, false, false, false, false, false, false] rfl rfl (by kernel_rfl) (fun _ _ _ h => h) (Or.inl ⟨by rfl, ?_⟩) ?_ ?_
     rotate_left
     ·intro w'
      go_simp
      with_reducible rfl
     rotate_left
     ·simp only [Act.put, List.setIfInBounds_toArray, List.set_cons_zero, List.set_cons_succ, i64_w, i32_w]
      rfl
     refine pure_ (i := 1) (N := some 23) (v := ?_) (a' := ?_) #[true, true, false, false, false, false, false, false, false, false, false, false, false, false, false, false, false, false, false, false, false, false, false, false, false, false, false, false, false, false] rfl rfl (by kernel_rfl) (fun _ _ _ h => h) (Or.inl ⟨by rfl, ?_⟩) ?_ ?_
     rotate_left
     ·intro w'
      go_simp
      with_reducible rfl
     rotate_left
     ·simp only [Act.put, List.setIfInBounds_toArray, List.set_cons_zero, List.set_cons_succ, i64_w, i32_w]
      rfl
     refine pure_ (i := 2) (N := some 24) (v := ?_) (a' := ?_) #[true, true, true, false, false, false, false, false, false, false, false, false, false, false, false, false, false, false, false, false, false, false, false, false, false, false, false, false, false, false] rfl rfl (by kernel_rfl) (fun _ _ _ h => h) (Or.inl ⟨by rfl, ?_⟩) ?_ ?_
     rotate_left
     ·intro w'
      go_simp
      with_reducible rfl
     rotate_left
     ·simp only [Act.put, List.setIfInBounds_toArray, List.set_cons_zero, List.set_cons_succ, i64_w, i32_w]
      rfl
     refine pure_ (i := 4) (N := some 26) (v := ?_) (a' := ?_) #[true, true, true, false, true, false, false, false, false, false, false, false, false, false, false, false, false, false, false, false, false, false, false, false, false, false, false, false, false, false] rfl rfl (by kernel_rfl) (fun _ _ _ h => h) (Or.inl ⟨by rfl, ?_⟩) ?_ ?_
     rotate_left
     ·intro w'
      go_simp
      with_reducible rfl
     rotate_left
     ·simp only [Act.put, List.setIfInBounds_toArray, List.set_cons_zero, List.set_cons_succ, i64_w, i32_w]
      rfl
     refine pure_ (i := 6) (N := some 28) (v := ?_) (a' := ?_) #[true, true, true, false, true, false, true, false, false, false, false, false, false, false, false, false, false, false, false, false, false, false, false, false, false, false, false, false, false, false] rfl rfl (by kernel_rfl) (fun _ _ _ h => h) (Or.inl ⟨by rfl, ?_⟩) ?_ ?_
     rotate_left
     ·intro w'
      go_simp
      with_reducible rfl
     rotate_left
     ·simp only [Act.put, List.setIfInBounds_toArray, List.set_cons_zero, List.set_cons_succ, i64_w, i32_w]
      rfl
     refine pure_ (i := 7) (N := some 29) (v := ?_) (a' := ?_) #[true, true, true, false, true, false, true, true, false, false, false, false, false, false, false, false, false, false, false, false, false, false, false, false, false, false, false, false, false, false] rfl rfl (by kernel_rfl) (fun _ _ _ h => h) (Or.inl ⟨by rfl, ?_⟩) ?_ ?_
     rotate_left
     ·intro w'
      go_simp
      with_reducible rfl
     rotate_left
     ·simp only [Act.put, List.setIfInBounds_toArray, List.set_cons_zero, List.set_cons_succ, i64_w, i32_w]
      rfl
     refine pure_ (i := 8) (N := some 30) (v := ?_) (a' := ?_) #[true, true, true, false, true, false, true, true, true, false, false, false, false, false, false, false, false, false, false, false, false, false, false, false, false, false, false, false, false, false] rfl rfl (by kernel_rfl) (fun _ _ _ h => h) (Or.inl ⟨by rfl, ?_⟩) ?_ ?_
     rotate_left
     ·intro w'
      go_simp
      with_reducible rfl
     rotate_left
     ·simp only [Act.put, List.setIfInBounds_toArray, List.set_cons_zero, List.set_cons_succ, i64_w, i32_w]
      rfl
     refine take_ (i := 3) (N := some 25) (v := ?_) (a' := ?_) #[true, true, true, true, true, false, true, true, true, false, false, false, false, false, false, false, false, false, false, false, false, false, false, false, false, false, false, false, false, false] rfl rfl (by kernel_rfl) (fun _ _ _ h => h) (Or.inl ⟨by rfl, ?_⟩) hHeld ?_ ?_
     rotate_left
     ·rintro w' ⟨s0, s1⟩
      go_simp
      with_reducible rfl
     rotate_left
     ·simp only [Act.put, List.setIfInBounds_toArray, List.set_cons_zero, List.set_cons_succ, i64_w, i32_w]
      rfl
     refine pure_ (i := 5) (N := some 27) (v := ?_) (a' := ?_) #[true, true, true, true, true, true, true, true, true, false, false, false, false, false, false, false, false, false, false, false, false, false, false, false, false, false, false, false, false, false] rfl rfl (by kernel_rfl) (fun _ _ _ h => h) (Or.inl ⟨by rfl, ?_⟩) ?_ ?_
     rotate_left
     ·intro w'
      go_simp
      with_reducible rfl
     rotate_left
     ·simp only [Act.put, List.setIfInBounds_toArray, List.set_cons_zero, List.set_cons_succ, i64_w, i32_w]
      rfl
     refine take_ (i := 9) (N := some 31) (v := ?_) (a' := ?_) #[true, true, true, true, true, true, true, true, true, true, false, false, false, false, false, false, false, false, false, false, false, false, false, false, false, false, false, false, false, false] rfl rfl (by kernel_rfl) (fun _ _ _ h => h) (Or.inl ⟨by rfl, ?_⟩) hHeld ?_ ?_
     rotate_left
     ·rintro w' ⟨s0, s1⟩
      go_simp
      with_reducible rfl
     rotate_left
     ·simp only [Act.put, List.setIfInBounds_toArray, List.set_cons_zero, List.set_cons_succ, i64_w, i32_w]
      rfl
     refine pure_ (i := 10) (N := some 32) (v := ?_) (a' := ?_) #[true, true, true, true, true, true, true, true, true, true, true, false, false, false, false, false, false, false, false, false, false, false, false, false, false, false, false, false, false, false] rfl rfl (by kernel_rfl) (fun _ _ _ h => h) (Or.inl ⟨by rfl, ?_⟩) ?_ ?_
     rotate_left
     ·intro w'
      go_simp
      with_reducible rfl
     rotate_left
     ·simp only [Act.put, List.setIfInBounds_toArray, List.set_cons_zero, List.set_cons_succ, i64_w, i32_w]
      rfl
     refine pure_ (i := 11) (N := some 33) (v := ?_) (a' := ?_) #[true, true, true, true, true, true, true, true, true, true, true, true, false, false, false, false, false, false, false, false, false, false, false, false, false, false, false, false, false, false] rfl rfl (by kernel_rfl) (fun _ _ _ h => h) (Or.inl ⟨by rfl, ?_⟩) ?_ ?_
     rotate_left
     ·intro w'
      go_simp
      with_reducible rfl
     rotate_left
     ·simp only [Act.put, List.setIfInBounds_toArray, List.set_cons_zero, List.set_cons_succ, i64_w, i32_w]
      rfl
     refine pure_ (i := 12) (N := some 34) (v := ?_) (a' := ?_) #[true, true, true, true, true, true, true, true, true, true, true, true, true, false, false, false, false, false, false, false, false, false, false, false, false, false, false, false, false, false] rfl rfl (by kernel_rfl) (fun _ _ _ h => h) (Or.inl ⟨by rfl, ?_⟩) ?_ ?_
     rotate_left
     ·intro w'
      go_simp
      with_reducible rfl
     rotate_left
     ·simp only [Act.put, List.setIfInBounds_toArray, List.set_cons_zero, List.set_cons_succ, i64_w, i32_w]
      rfl
     refine pure_ (i := 13) (N := some 35) (v := ?_) (a' := ?_) #[true, true, true, true, true, true, true, true, true, true, true, true, true, true, false, false, false, false, false, false, false, false, false, false, false, false, false, false, false, false] rfl rfl (by kernel_rfl) (fun _ _ _ h => h) (Or.inl ⟨by rfl, ?_⟩) ?_ ?_
     rotate_left
     ·intro w'
      go_simp
      with_reducible rfl
     rotate_left
     ·simp only [Act.put, List.setIfInBounds_toArray, List.set_cons_zero, List.set_cons_succ, i64_w, i32_w]
      rfl
     refine pure_ (i := 14) (N := some 36) (v := ?_) (a' := ?_) #[true, true, true, true, true, true, true, true, true, true, true, true, true, true, true, false, false, false, false, false, false, false, false, false, false, false, false, false, false, false] rfl rfl (by kernel_rfl) (fun _ _ _ h => h) (Or.inl ⟨by rfl, ?_⟩) ?_ ?_
     rotate_left
     ·intro w'
      go_simp
      with_reducible rfl
     rotate_left
     ·simp only [Act.put, List.setIfInBounds_toArray, List.set_cons_zero, List.set_cons_succ, i64_w, i32_w]
      rfl
     refine pure_ (i := 15) (N := some 37) (v := ?_) (a' := ?_) #[true, true, true, true, true, true, true, true, true, true, true, true, true, true, true, true, false, false, false, false, false, false, false, false, false, false, false, false, false, false] rfl rfl (by kernel_rfl) (fun _ _ _ h => h) (Or.inl ⟨by rfl, ?_⟩) ?_ ?_
     rotate_left
     ·intro w'
      go_simp
      with_reducible rfl
     rotate_left
     ·simp only [Act.put, List.setIfInBounds_toArray, List.set_cons_zero, List.set_cons_succ, i64_w, i32_w]
      rfl
     refine pure_ (i := 17) (N := some 39) (v := ?_) (a' := ?_) #[true, true, true, true, true, true, true, true, true, true, true, true, true, true, true, true, false, true, false, false, false, false, false, false, false, false, false, false, false, false] rfl rfl (by kernel_rfl) (fun _ _ _ h => h) (Or.inl ⟨by rfl, ?_⟩) ?_ ?_
     rotate_left
     ·intro w'
      go_simp
      with_reducible rfl
     rotate_left
     ·simp only [Act.put, List.setIfInBounds_toArray, List.set_cons_zero, List.set_cons_succ, i64_w, i32_w]
      rfl
     refine pure_ (i := 18) (N := some 40) (v := ?_) (a' := ?_) #[true, true, true, true, true, true, true, true, true, true, true, true, true, true, true, true, false, true, true, false, false, false, false, false, false, false, false, false, false, false] rfl rfl (by kernel_rfl) (fun _ _ _ h => h) (Or.inl ⟨by rfl, ?_⟩) ?_ ?_
     rotate_left
     ·intro w'
      go_simp
      with_reducible rfl
     rotate_left
     ·simp only [Act.put, List.setIfInBounds_toArray, List.set_cons_zero, List.set_cons_succ, i64_w, i32_w]
      rfl
     refine pure_ (i := 19) (N := some 41) (v := ?_) (a' := ?_) #[true, true, true, true, true, true, true, true, true, true, true, true, true, true, true, true, false, true, true, true, false, false, false, false, false, false, false, false, false, false] rfl rfl (by kernel_rfl) (fun _ _ _ h => h) (Or.inl ⟨by rfl, ?_⟩) ?_ ?_
     rotate_left
     ·intro w'
      go_simp
      with_reducible rfl
     rotate_left
     ·simp only [Act.put, List.setIfInBounds_toArray, List.set_cons_zero, List.set_cons_succ, i64_w, i32_w]
      rfl
     refine pure_ (i := 21) (N := some 43) (v := ?_) (a' := ?_) #[true, true, true, true, true, true, true, true, true, true, true, true, true, true, true, true, false, true, true, true, false, true, false, false, false, false, false, false, false, false] rfl rfl (by kernel_rfl) (fun _ _ _ h => h) (Or.inl ⟨by rfl, ?_⟩) ?_ ?_
     rotate_left
     ·intro w'
      go_simp
      with_reducible rfl
     rotate_left
     ·simp only [Act.put, List.setIfInBounds_toArray, List.set_cons_zero, List.set_cons_succ, i64_w, i32_w]
      rfl
     refine pure_ (i := 22) (N := some 44) (v := ?_) (a' := ?_) #[true, true, true, true, true, true, true, true, true, true, true, true, true, true, true, true, false, true, true, true, false, true, true, false, false, false, false, false, false, false] rfl rfl (by kernel_rfl) (fun _ _ _ h => h) (Or.inl ⟨by rfl, ?_⟩) ?_ ?_
     rotate_left
     ·intro w'
      go_simp
      with_reducible rfl
     rotate_left
     ·simp only [Act.put, List.setIfInBounds_toArray, List.set_cons_zero, List.set_cons_succ, i64_w, i32_w]
      rfl
     refine pure_ (i := 23) (N := some 45) (v := ?_) (a' := ?_) #[true, true, true, true, true, true, true, true, true, true, true, true, true, true, true, true, false, true, true, true, false, true, true, true, false, false, false, false, false, false] rfl rfl (by kernel_rfl) (fun _ _ _ h => h) (Or.inl ⟨by rfl, ?_⟩) ?_ ?_
     rotate_left
     ·intro w'
      go_simp
      with_reducible rfl
     rotate_left
     ·simp only [Act.put, List.setIfInBounds_toArray, List.set_cons_zero, List.set_cons_succ, i64_w, i32_w]
      rfl
     refine pure_ (i := 25) (N := some 47) (v := ?_) (a' := ?_) #[true, true, true, true, true, true, true, true, true, true, true, true, true, true, true, true, false, true, true, true, false, true, true, true, false, true, false, false, false, false] rfl rfl (by kernel_rfl) (fun _ _ _ h => h) (Or.inl ⟨by rfl, ?_⟩) ?_ ?_
     rotate_left
     ·intro w'
      go_simp
      with_reducible rfl
     rotate_left
     ·simp only [Act.put, List.setIfInBounds_toArray, List.set_cons_zero, List.set_cons_succ, i64_w, i32_w]
      rfl
     refine take_ (i := 16) (N := some 38) (v := ?_) (a' := ?_) #[true, true, true, true, true, true, true, true, true, true, true, true, true, true, true, true, true, true, true, true, false, true, true, true, false, true, false, false, false, false] rfl rfl (by kernel_rfl) (fun _ _ _ h => h) (Or.inl ⟨by rfl, ?_⟩) hHeld ?_ ?_
     rotate_left
     ·rintro w' ⟨s0, s1⟩
      go_simp
      with_reducible rfl
     rotate_left
     ·simp only [Act.put, List.setIfInBounds_toArray, List.set_cons_zero, List.set_cons_succ, i64_w, i32_w]
      rfl
     refine take_ (i := 20) (N := some 42) (v := ?_) (a' := ?_) #[true, true, true, true, true, true, true, true, true, true, true, true, true, true, true, true, true, true, true, true, true, true, true, true, false, true, false, false, false, false] rfl rfl (by kernel_rfl) (fun _ _ _ h => h) (Or.inl ⟨by rfl, ?_⟩) hHeld ?_ ?_
     rotate_left
     ·rintro w' ⟨s0, s1⟩
      go_simp
      with_reducible rfl
     rotate_left
     ·simp only [Act.put, List.setIfInBounds_toArray, List.set_cons_zero, List.set_cons_succ, i64_w, i32_w]
      rfl
     refine take_ (i := 24) (N := some 46) (v := ?_) (a' := ?_) #[true, true, true, true, true, true, true, true, true, true, true, true, true, true, true, true, true, true, true, true, true, true, true, true, true, true, false, false, false, false] rfl rfl (by kernel_rfl) (fun _ _ _ h => h) (Or.inl ⟨by rfl, ?_⟩) hHeld ?_ ?_
     rotate_left
     ·rintro w' ⟨s0, s1⟩
      go_simp
      with_reducible rfl
     rotate_left
     ·simp only [Act.put, List.setIfInBounds_toArray, List.set_cons_zero, List.set_cons_succ, i64_w, i32_w]
      rfl
     refine pure_ (i := 26) (N := some 48) (v := ?_) (a' := ?_) #[true, true, true, true, true, true, true, true, true, true, true, true, true, true, true, true, true, true, true, true, true, true, true, true, true, true, true, false, false, false] rfl rfl (by kernel_rfl) (fun _ _ _ h => h) (Or.inl ⟨by rfl, ?_⟩) ?_ ?_
     rotate_left
     ·intro w'
      go_simp
      with_reducible rfl
     rotate_left
     ·simp only [Act.put, List.setIfInBounds_toArray, List.set_cons_zero, List.set_cons_succ, i64_w, i32_w]
      rfl
     refine pure_ (i := 27) (N := some 49) (v := ?_) (a' := ?_) #[true, true, true, true, true, true, true, true, true, true, true, true, true, true, true, true, true, true, true, true, true, true, true, true, true, true, true, true, false, false] rfl rfl (by kernel_rfl) (fun _ _ _ h => h) (Or.inl ⟨by rfl, ?_⟩) ?_ ?_
     rotate_left
     ·intro w'
      go_simp
      with_reducible rfl
     rotate_left
     ·simp only [Act.put, List.setIfInBounds_toArray, List.set_cons_zero, List.set_cons_succ, i64_w, i32_w]
      rfl
     refine last_ (i := 28) (N := some 50) #[true, true, true, true, true, true, true, true, true, true, true, true, true, true, true, true, true, true, true, true, true, true, true, true, true, true, true, true, true, false] rfl rfl (by kernel_rfl) (by decide) (fun K hK => ?_)
     refine goes_ Tryd.func58 (by kernel_rfl) rfl #[.string (s.extract at_.toNat (at_ + 1).toNat)] (by rfl) rfl rfl (by simp only [List.map_toArray, List.map_cons, List.map_nil]; rfl) ?_
     with_reducible refine (rop_c _ true HO.out _).mono ?_
     rintro e w1 ⟨rfl, hb⟩
     have H1 := Aside0.mk (Rc.of_below H0.out hb)
     clear hb
     refine ⟨_, rfl, ?_⟩
     refine hK.out _ _ ?_
     clear hK K
     refine norm_ (a' := ?_) ?_ ?_
     rotate_left
     ·show Act.put _ (some 50) _ = _
      simp only [Act.put, List.setIfInBounds_toArray, List.set_cons_zero, List.set_cons_succ, i64_w, i32_w]
      rfl
     refine pure_ (i := 29) (N := some 51) (v := ?_) (a' := ?_) #[true, true, true, true, true, true, true, true, true, true, true, true, true, true, true, true, true, true, true, true, true, true, true, true, true, true, true, true, true, true] rfl rfl (by kernel_rfl) (fun _ _ _ h => h) (Or.inl ⟨by rfl, ?_⟩) ?_ ?_
     rotate_left
     ·intro w'
      go_simp
      with_reducible rfl
     rotate_left
     ·simp only [Act.put, List.setIfInBounds_toArray, List.set_cons_zero, List.set_cons_succ, i64_w, i32_w]
      rfl
     refine done_ (by kernel_rfl) ?_
     have q1 := H1.out.q1
     go_wp2_with (go_at_call 52; (with_reducible refine (rc_add g s at_ line l c 4 (at_ + 1) w0 _ H1.out (by omega) ha (by omega) (by omega)).mono ?_); rintro e w2 ⟨rfl, h2⟩; have H2 := Aside0.mk h2; clear h2)
     go_ret
     obtain ⟨rfl, rfl⟩ := Prod.mk.inj HX.out
     exact ⟨rfl, H2.out⟩
    | false =>
     have HO := Aside0.mk ho
     have HN : Aside0 (¬ opOk s at_ 1) := ⟨fun h => by have := h.2; rw [ho] at this; exact absurd this (by decide)⟩
     clear ho
     go_wp2
     have H0 := Aside0.mk (Rc.drew HH.out)
     refine start_ (n := 30) (S := fun w' => w'.cell? ⟨g, 0, none⟩ = some (.string s) ∧ w'.cell? ⟨g, 1, none⟩ = some (.int .i64 at_)) (ds := [28]) #[false, false, false, false, false, false, false, false, false, false, false, false, false, false, false, false, false, false, false, false, false, false, false, false, false, false, false, false, false, false] (by kernel_rfl) rfl rfl ⟨H0.out.q0, H0.out.q1⟩ (fun hHeld => ?_)
     generalize wr.drew = W1 at H0 hHeld ⊢
     refine pure_ (i := 0) (N := some 22) (v := ?_) (a' := ?_) #[true, false, false, false, false, false, false, false, false, false, false, false, false, false, false, false, false, false, false, false, false, false, false, false, false, false, false, false, false, false] rfl rfl (by kernel_rfl) (fun _ _ _ h => h) (Or.inl ⟨by rfl, ?_⟩) ?_ ?_
     rotate_left
     ·intro w'
      go_simp
      with_reducible rfl
     rotate_left
     ·simp only [Act.put, List.setIfInBounds_toArray, List.set_cons_zero, List.set_cons_succ, i64_w, i32_w]
      rfl
     refine pure_ (i := 1) (N := some 23) (v := ?_) (a' := ?_) #[true, true, false, false, false, false, false, false, false, false, false, false, false, false, false, false, false, false, false, false, false, false, false, false, false, false, false, false, false, false] rfl rfl (by kernel_rfl) (fun _ _ _ h => h) (Or.inl ⟨by rfl, ?_⟩) ?_ ?_
     rotate_left
     ·intro w'
      go_simp
      with_reducible rfl
     rotate_left
     ·simp only [Act.put, List.setIfInBounds_toArray, List.set_cons_zero, List.set_cons_succ, i64_w, i32_w]
      rfl
     refine pure_ (i := 2) (N := some 24) (v := ?_) (a' := ?_) #[true, true, true, false, false, false, false, false, false, false, false, false, false, false, false, false, false, false, false, false, false, false, false, false, false, false, false, false, false, false] rfl rfl (by kernel_rfl) (fun _ _ _ h => h) (Or.inl ⟨by rfl, ?_⟩) ?_ ?_
     rotate_left
     ·intro w'
      go_simp
      with_reducible rfl
     rotate_left
     ·simp only [Act.put, List.setIfInBounds_toArray, List.set_cons_zero, List.set_cons_succ, i64_w, i32_w]
      rfl
     refine pure_ (i := 4) (N := some 26) (v := ?_) (a' := ?_) #[true, true, true, false, true, false, false, false, false, false, false, false, false, false, false, false, false, false, false, false, false, false, false, false, false, false, false, false, false, false] rfl rfl (by kernel_rfl) (fun _ _ _ h => h) (Or.inl ⟨by rfl, ?_⟩) ?_ ?_
     rotate_left
     ·intro w'
      go_simp
      with_reducible rfl
     rotate_left
     ·simp only [Act.put, List.setIfInBounds_toArray, List.set_cons_zero, List.set_cons_succ, i64_w, i32_w]
      rfl
     refine pure_ (i := 6) (N := some 28) (v := ?_) (a' := ?_) #[true, true, true, false, true, false, true, false, false, false, false, false, false, false, false, false, false, false, false, false, false, false, false, false, false, false, false, false, false, false] rfl rfl (by kernel_rfl) (fun _ _ _ h => h) (Or.inl ⟨by rfl, ?_⟩) ?_ ?_
     rotate_left
     ·intro w'
      go_simp
      with_reducible rfl
     rotate_left
     ·simp only [Act.put, List.setIfInBounds_toArray, List.set_cons_zero, List.set_cons_succ, i64_w, i32_w]
      rfl
     refine pure_ (i := 7) (N := some 29) (v := ?_) (a' := ?_) #[true, true, true, false, true, false, true, true, false, false, false, false, false, false, false, false, false, false, false, false, false, false, false, false, false, false, false, false, false, false] rfl rfl (by kernel_rfl) (fun _ _ _ h => h) (Or.inl ⟨by rfl, ?_⟩) ?_ ?_
     rotate_left
     ·intro w'
      go_simp
      with_reducible rfl
     rotate_left
     ·simp only [Act.put, List.setIfInBounds_toArray, List.set_cons_zero, List.set_cons_succ, i64_w, i32_w]
      rfl
     refine pure_ (i := 8) (N := some 30) (v := ?_) (a' := ?_) #[true, true, true, false, true, false, true, true, true, false, false, false, false, false, false, false, false, false, false, false, false, false, false, false, false, false, false, false, false, false] rfl rfl (by kernel_rfl) (fun _ _ _ h => h) (Or.inl ⟨by rfl, ?_⟩) ?_ ?_
     rotate_left
     ·intro w'
      go_simp
      with_reducible rfl
     rotate_left
     ·simp only [Act.put, List.setIfInBounds_toArray, List.set_cons_zero, List.set_cons_succ, i64_w, i32_w]
      rfl
     refine take_ (i := 3) (N := some 25) (v := ?_) (a' := ?_) #[true, true, true, true, true, false, true, true, true, false, false, false, false, false, false, false, false, false, false, false, false, false, false, false, false, false, false, false, false, false] rfl rfl (by kernel_rfl) (fun _ _ _ h => h) (Or.inl ⟨by rfl, ?_⟩) hHeld ?_ ?_
     rotate_left
     ·rintro w' ⟨s0, s1⟩
      go_simp
      with_reducible rfl
     rotate_left
     ·simp only [Act.put, List.setIfInBounds_toArray, List.set_cons_zero, List.set_cons_succ, i64_w, i32_w]
      rfl
     refine pure_ (i := 5) (N := some 27) (v := ?_) (a' := ?_) #[true, true, true, true, true, true, true, true, true, false, false, false, false, false, false, false, false, false, false, false, false, false, false, false, false, false, false, false, false, false] rfl rfl (by kernel_rfl) (fun _ _ _ h => h) (Or.inl ⟨by rfl, ?_⟩) ?_ ?_
     rotate_left
     ·intro w'
      go_simp
      with_reducible rfl
     rotate_left
     ·simp only [Act.put, List.setIfInBounds_toArray, List.set_cons_zero, List.set_cons_succ, i64_w, i32_w]
      rfl
     refine take_ (i := 9) (N := some 31) (v := ?_) (a' := ?_) #[true, true, true, true, true, true, true, true, true, true, false, false, false, false, false, false, false, false, false, false, false, false, false, false, false, false, false, false, false, false] rfl rfl (by kernel_rfl) (fun _ _ _ h => h) (Or.inl ⟨by rfl, ?_⟩) hHeld ?_ ?_
     rotate_left
     ·rintro w' ⟨s0, s1⟩
      go_simp
      with_reducible rfl
     rotate_left
     ·simp only [Act.put, List.setIfInBounds_toArray, List.set_cons_zero, List.set_cons_succ, i64_w, i32_w]
      rfl
     refine pure_ (i := 10) (N := some 32) (v := ?_) (a' := ?_) #[true, true, true, true, true, true, true, true, true, true, true, false, false, false, false, false, false, false, false, false, false, false, false, false, false, false, false, false, false, false] rfl rfl (by kernel_rfl) (fun _ _ _ h => h) (Or.inl ⟨by rfl, ?_⟩) ?_ ?_
     rotate_left
     ·intro w'
      go_simp
      with_reducible rfl
     rotate_left
     ·simp only [Act.put, List.setIfInBounds_toArray, List.set_cons_zero, List.set_cons_succ, i64_w, i32_w]
      rfl
     refine pure_ (i := 11) (N := some 33) (v := ?_) (a' := ?_) #[true, true, true, true, true, true, true, true, true, true, true, true, false, false, false, false, false, false, false, false, false, false, false, false, false, false, false, false, false, false] rfl rfl (by kernel_rfl) (fun _ _ _ h => h) (Or.inl ⟨by rfl, ?_⟩) ?_ ?_
     rotate_left
     ·intro w'
      go_simp
      with_reducible rfl
     rotate_left
     ·simp only [Act.put, List.setIfInBounds_toArray, List.set_cons_zero, List.set_cons_succ, i64_w, i32_w]
      rfl
     refine pure_ (i := 12) (N := some 34) (v := ?_) (a' := ?_) #[true, true, true, true, true, true, true, true, true, true, true, true, true, false, false, false, false, false, false, false, false, false, false, false, false, false, false, false, false, false] rfl rfl (by kernel_rfl) (fun _ _ _ h => h) (Or.inl ⟨by rfl, ?_⟩) ?_ ?_
     rotate_left
     ·intro w'
      go_simp
      with_reducible rfl
     rotate_left
     ·simp only [Act.put, List.setIfInBounds_toArray, List.set_cons_zero, List.set_cons_succ, i64_w, i32_w]
      rfl
     refine pure_ (i := 13) (N := some 35) (v := ?_) (a' := ?_) #[true, true, true, true, true, true, true, true, true, true, true, true, true, true, false, false, false, false, false, false, false, false, false, false, false, false, false, false, false, false] rfl rfl (by kernel_rfl) (fun _ _ _ h => h) (Or.inl ⟨by rfl, ?_⟩) ?_ ?_
     rotate_left
     ·intro w'
      go_simp
      with_reducible rfl
     rotate_left
     ·simp only [Act.put, List.setIfInBounds_toArray, List.set_cons_zero, List.set_cons_succ, i64_w, i32_w]
      rfl
     refine pure_ (i := 14) (N := some 36) (v := ?_) (a' := ?_) #[true, true, true, true, true, true, true, true, true, true, true, true, true, true, true, false, false, false, false, false, false, false, false, false, false, false, false, false, false, false] rfl rfl (by kernel_rfl) (fun _ _ _ h => h) (Or.inl ⟨by rfl, ?_⟩) ?_ ?_
     rotate_left
     ·intro w'
      go_simp
      with_reducible rfl
     rotate_left
     ·simp only [Act.put, List.setIfInBounds_toArray, List.set_cons_zero, List.set_cons_succ, i64_w, i32_w]
      rfl
     refine pure_ (i := 15) (N := some 37) (v := ?_) (a' := ?_) #[true, true, true, true, true, true, true, true, true, true, true, true, true, true, true, true, false, false, false, false, false, false, false, false, false, false, false, false, false, false] rfl rfl (by kernel_rfl) (fun _ _ _ h => h) (Or.inl ⟨by rfl, ?_⟩) ?_ ?_
     rotate_left
     ·intro w'
      go_simp
      with_reducible rfl
     rotate_left
     ·simp only [Act.put, List.setIfInBounds_toArray, List.set_cons_zero, List.set_cons_succ, i64_w, i32_w]
      rfl
     refine pure_ (i := 17) (N := some 39) (v := ?_) (a' := ?_) #[true, true, true, true, true, true, true, true, true, true, true, true, true, true, true, true, false, true, false, false, false, false, false, false, false, false, false, false, false, false] rfl rfl (by kernel_rfl) (fun _ _ _ h => h) (Or.inl ⟨by rfl, ?_⟩) ?_ ?_
     rotate_left
     ·intro w'
      go_simp
      with_reducible rfl
     rotate_left
     ·simp only [Act.put, List.setIfInBounds_toArray, List.set_cons_zero, List.set_cons_succ, i64_w, i32_w]
      rfl
     refine pure_ (i := 18) (N := some 40) (v := ?_) (a' := ?_) #[true, true, true, true, true, true, true, true, true, true, true, true, true, true, true, true, false, true, true, false, false, false, false, false, false, false, false, false, false, false] rfl rfl (by kernel_rfl) (fun _ _ _ h => h) (Or.inl ⟨by rfl, ?_⟩) ?_ ?_
     rotate_left
     ·intro w'
      go_simp
      with_reducible rfl
     rotate_left
     ·simp only [Act.put, List.setIfInBounds_toArray, List.set_cons_zero, List.set_cons_succ, i64_w, i32_w]
      rfl
     refine pure_ (i := 19) (N := some 41) (v := ?_) (a' := ?_) #[true, true, true, true, true, true, true, true, true, true, true, true, true, true, true, true, false, true, true, true, false, false, false, false, false, false, false, false, false, false] rfl rfl (by kernel_rfl) (fun _ _ _ h => h) (Or.inl ⟨by rfl, ?_⟩) ?_ ?_
     rotate_left
     ·intro w'
      go_simp
      with_reducible rfl
     rotate_left
     ·simp only [Act.put, List.setIfInBounds_toArray, List.set_cons_zero, List.set_cons_succ, i64_w, i32_w]
      rfl
     refine pure_ (i := 21) (N := some 43) (v := ?_) (a' := ?_) #[true, true, true, true, true, true, true, true, true, true, true, true, true, true, true, true, false, true, true, true, false, true, false, false, false, false, false, false, false, false] rfl rfl (by kernel_rfl) (fun _ _ _ h => h) (Or.inl ⟨by rfl, ?_⟩) ?_ ?_
     rotate_left
     ·intro w'
      go_simp
      with_reducible rfl
     rotate_left
     ·simp only [Act.put, List.setIfInBounds_toArray, List.set_cons_zero, List.set_cons_succ, i64_w, i32_w]
      rfl
     refine pure_ (i := 22) (N := some 44) (v := ?_) (a' := ?_) #[true, true, true, true, true, true, true, true, true, true, true, true, true, true, true, true, false, true, true, true, false, true, true, false, false, false, false, false, false, false] rfl rfl (by kernel_rfl) (fun _ _ _ h => h) (Or.inl ⟨by rfl, ?_⟩) ?_ ?_
     rotate_left
     ·intro w'
      go_simp
      with_reducible rfl
     rotate_left
     ·simp only [Act.put, List.setIfInBounds_toArray, List.set_cons_zero, List.set_cons_succ, i64_w, i32_w]
      rfl
     refine pure_ (i := 23) (N := some 45) (v := ?_) (a' := ?_) #[true, true, true, true, true, true, true, true, true, true, true, true, true, true, true, true, false, true, true, true, false, true, true, true, false, false, false, false, false, false] rfl rfl (by kernel_rfl) (fun _ _ _ h => h) (Or.inl ⟨by rfl, ?_⟩) ?_ ?_
     rotate_left
     ·intro w'
      go_simp
      with_reducible rfl
     rotate_left
     ·simp only [Act.put, List.setIfInBounds_toArray, List.set_cons_zero, List.set_cons_succ, i64_w, i32_w]
      rfl
     refine pure_ (i := 25) (N := some 47) (v := ?_) (a' := ?_) #[true, true, true, true, true, true, true, true, true, true, true, true, true, true, true, true, false, true, true, true, false, true, true, true, false, true, false, false, false, false] rfl rfl (by kernel_rfl) (fun _ _ _ h => h) (Or.inl ⟨by rfl, ?_⟩) ?_ ?_
     rotate_left
     ·intro w'
      go_simp
      with_reducible rfl
     rotate_left
     ·simp only [Act.put, List.setIfInBounds_toArray, List.set_cons_zero, List.set_cons_succ, i64_w, i32_w]
      rfl
     refine take_ (i := 16) (N := some 38) (v := ?_) (a' := ?_) #[true, true, true, true, true, true, true, true, true, true, true, true, true, true, true, true, true, true, true, true, false, true, true, true, false, true, false, false, false, false] rfl rfl (by kernel_rfl) (fun _ _ _ h => h) (Or.inl ⟨by rfl, ?_⟩) hHeld ?_ ?_
     rotate_left
     ·rintro w' ⟨s0, s1⟩
      go_simp
      with_reducible rfl
     rotate_left
     ·simp only [Act.put, List.setIfInBounds_toArray, List.set_cons_zero, List.set_cons_succ, i64_w, i32_w]
      rfl
     refine take_ (i := 20) (N := some 42) (v := ?_) (a' := ?_) #[true, true, true, true, true, true, true, true, true, true, true, true, true, true, true, true, true, true, true, true, true, true, true, true, false, true, false, false, false, false] rfl rfl (by kernel_rfl) (fun _ _ _ h => h) (Or.inl ⟨by rfl, ?_⟩) hHeld ?_ ?_
     rotate_left
     ·rintro w' ⟨s0, s1⟩
      go_simp
      with_reducible rfl
     rotate_left
     ·simp only [Act.put, List.setIfInBounds_toArray, List.set_cons_zero, List.set_cons_succ, i64_w, i32_w]
      rfl
     refine take_ (i := 24) (N := some 46) (v := ?_) (a' := ?_) #[true, true, true, true, true, true, true, true, true, true, true, true, true, true, true, true, true, true, true, true, true, true, true, true, true, true, false, false, false, false] rfl rfl (by kernel_rfl) (fun _ _ _ h => h) (Or.inl ⟨by rfl, ?_⟩) hHeld ?_ ?_
     rotate_left
     ·rintro w' ⟨s0, s1⟩
      go_simp
      with_reducible rfl
     rotate_left
     ·simp only [Act.put, List.setIfInBounds_toArray, List.set_cons_zero, List.set_cons_succ, i64_w, i32_w]
      rfl
     refine pure_ (i := 26) (N := some 48) (v := ?_) (a' := ?_) #[true, true, true, true, true, true, true, true, true, true, true, true, true, true, true, true, true, true, true, true, true, true, true, true, true, true, true, false, false, false] rfl rfl (by kernel_rfl) (fun _ _ _ h => h) (Or.inl ⟨by rfl, ?_⟩) ?_ ?_
     rotate_left
     ·intro w'
      go_simp
      with_reducible rfl
     rotate_left
     ·simp only [Act.put, List.setIfInBounds_toArray, List.set_cons_zero, List.set_cons_succ, i64_w, i32_w]
      rfl
     refine pure_ (i := 27) (N := some 49) (v := ?_) (a' := ?_) #[true, true, true, true, true, true, true, true, true, true, true, true, true, true, true, true, true, true, true, true, true, true, true, true, true, true, true, true, false, false] rfl rfl (by kernel_rfl) (fun _ _ _ h => h) (Or.inl ⟨by rfl, ?_⟩) ?_ ?_
     rotate_left
     ·intro w'
      go_simp
      with_reducible rfl
     rotate_left
     ·simp only [Act.put, List.setIfInBounds_toArray, List.set_cons_zero, List.set_cons_succ, i64_w, i32_w]
      rfl
     refine last_ (i := 28) (N := some 50) #[true, true, true, true, true, true, true, true, true, true, true, true, true, true, true, true, true, true, true, true, true, true, true, true, true, true, true, true, true, false] rfl rfl (by kernel_rfl) (by decide) (fun K hK => ?_)
     refine goes_ Tryd.func58 (by kernel_rfl) rfl #[.string (s.extract at_.toNat (at_ + 1).toNat)] (by rfl) rfl rfl (by simp only [List.map_toArray, List.map_cons, List.map_nil]; rfl) ?_
     with_reducible refine (rop_c _ false HO.out _).mono ?_
     rintro e w1 ⟨rfl, hb⟩
     have H1 := Aside0.mk (Rc.of_below H0.out hb)
     clear hb
     refine ⟨_, rfl, ?_⟩
     refine hK.out _ _ ?_
     clear hK K
     refine norm_ (a' := ?_) ?_ ?_
     rotate_left
     ·show Act.put _ (some 50) _ = _
      simp only [Act.put, List.setIfInBounds_toArray, List.set_cons_zero, List.set_cons_succ, i64_w, i32_w]
      rfl
     refine pure_ (i := 29) (N := some 51) (v := ?_) (a' := ?_) #[true, true, true, true, true, true, true, true, true, true, true, true, true, true, true, true, true, true, true, true, true, true, true, true, true, true, true, true, true, true] rfl rfl (by kernel_rfl) (fun _ _ _ h => h) (Or.inl ⟨by rfl, ?_⟩) ?_ ?_
     rotate_left
     ·intro w'
      go_simp
      with_reducible rfl
     rotate_left
     ·simp only [Act.put, List.setIfInBounds_toArray, List.set_cons_zero, List.set_cons_succ, i64_w, i32_w]
      rfl
     refine done_ (by kernel_rfl) ?_
     go_wp2
     go_roundw
     case rel => exact ⟨.inr (.inr ⟨rfl, hno, HN⟩), ⟨H1.out⟩⟩
     case measure => simp [intOf]
   ·have b1 : decide (at_ + 1 ≤ (s.size : Int)) = false := decide_eq_false (by omega)
    have HN : Aside0 (¬ opOk s at_ 1) := ⟨fun h => g1 h.1⟩
    go_wp2
    have H0 := Aside0.mk (Rc.drew HH.out)
    refine start_ (n := 30) (S := fun w' => w'.cell? ⟨g, 0, none⟩ = some (.string s) ∧ w'.cell? ⟨g, 1, none⟩ = some (.int .i64 at_)) (ds := []) #[false, false, false, false, false, false, false, false, false, false, false, false, false, false, false, false, false, false, false, false, false, false, false, false, false, false, false, false, false, false] (by kernel_rfl) rfl rfl ⟨H0.out.q0, H0.out.q1⟩ (fun hHeld => ?_)
    generalize wr.drew = W1 at H0 hHeld ⊢
    refine pure_ (i := 0) (N := some 22) (v := ?_) (a' := ?_) #[true, false, false, false, false, false, false, false, false, false, false, false, false, false, false, false, false, false, false, false, false, false, false, false, false, false, false, false, false, false] rfl rfl (by kernel_rfl) (fun _ _ _ h => h) (Or.inl ⟨by rfl, ?_⟩) ?_ ?_
    rotate_left
    ·intro w'
     go_simp
     with_reducible rfl
    rotate_left
    ·simp only [Act.put, List.setIfInBounds_toArray, List.set_cons_zero, List.set_cons_succ, i64_w, i32_w]
     rfl
    refine pure_ (i := 1) (N := some 23) (v := ?_) (a' := ?_) #[true, true, false, false, false, false, false, false, false, false, false, false, false, false, false, false, false, false, false, false, false, false, false, false, false, false, false, false, false, false] rfl rfl (by kernel_rfl) (fun _ _ _ h => h) (Or.inl ⟨by rfl, ?_⟩) ?_ ?_
    rotate_left
    ·intro w'
     go_simp
     with_reducible rfl
    rotate_left
    ·simp only [Act.put, List.setIfInBounds_toArray, List.set_cons_zero, List.set_cons_succ, i64_w, i32_w]
     rfl
    refine pure_ (i := 2) (N := some 24) (v := ?_) (a' := ?_) #[true, true, true, false, false, false, false, false, false, false, false, false, false, false, false, false, false, false, false, false, false, false, false, false, false, false, false, false, false, false] rfl rfl (by kernel_rfl) (fun _ _ _ h => h) (Or.inl ⟨by rfl, ?_⟩) ?_ ?_
    rotate_left
    ·intro w'
     go_simp
     with_reducible rfl
    rotate_left
    ·simp only [Act.put, List.setIfInBounds_toArray, List.set_cons_zero, List.set_cons_succ, i64_w, i32_w]
     rfl
    refine pure_ (i := 4) (N := some 26) (v := ?_) (a' := ?_) #[true, true, true, false, true, false, false, false, false, false, false, false, false, false, false, false, false, false, false, false, false, false, false, false, false, false, false, false, false, false] rfl rfl (by kernel_rfl) (fun _ _ _ h => h) (Or.inl ⟨by rfl, ?_⟩) ?_ ?_
    rotate_left
    ·intro w'
     go_simp
     with_reducible rfl
    rotate_left
    ·simp only [Act.put, List.setIfInBounds_toArray, List.set_cons_zero, List.set_cons_succ, i64_w, i32_w]
     rfl
    refine pure_ (i := 6) (N := some 28) (v := ?_) (a' := ?_) #[true, true, true, false, true, false, true, false, false, false, false, false, false, false, false, false, false, false, false, false, false, false, false, false, false, false, false, false, false, false] rfl rfl (by kernel_rfl) (fun _ _ _ h => h) (Or.inl ⟨by rfl, ?_⟩) ?_ ?_
    rotate_left
    ·intro w'
     go_simp
     with_reducible rfl
    rotate_left
    ·simp only [Act.put, List.setIfInBounds_toArray, List.set_cons_zero, List.set_cons_succ, i64_w, i32_w]
     rfl
    refine pure_ (i := 7) (N := some 29) (v := ?_) (a' := ?_) #[true, true, true, false, true, false, true, true, false, false, false, false, false, false, false, false, false, false, false, false, false, false, false, false, false, false, false, false, false, false] rfl rfl (by kernel_rfl) (fun _ _ _ h => h) (Or.inl ⟨by rfl, ?_⟩) ?_ ?_
    rotate_left
    ·intro w'
     go_simp
     with_reducible rfl
    rotate_left
    ·simp only [Act.put, List.setIfInBounds_toArray, List.set_cons_zero, List.set_cons_succ, i64_w, i32_w]
     rfl
    refine pure_ (i := 8) (N := some 30) (v := ?_) (a' := ?_) #[true, true, true, false, true, false, true, true, true, false, false, false, false, false, false, false, false, false, false, false, false, false, false, false, false, false, false, false, false, false] rfl rfl (by kernel_rfl) (fun _ _ _ h => h) (Or.inl ⟨by rfl, ?_⟩) ?_ ?_
    rotate_left
    ·intro w'
     go_simp
     with_reducible rfl
    rotate_left
    ·simp only [Act.put, List.setIfInBounds_toArray, List.set_cons_zero, List.set_cons_succ, i64_w, i32_w]
     rfl
    refine take_ (i := 3) (N := some 25) (v := ?_) (a' := ?_) #[true, true, true, true, true, false, true, true, true, false, false, false, false, false, false, false, false, false, false, false, false, false, false, false, false, false, false, false, false, false] rfl rfl (by kernel_rfl) (fun _ _ _ h => h) (Or.inl ⟨by rfl, ?_⟩) hHeld ?_ ?_
    rotate_left
    ·rintro w' ⟨s0, s1⟩
     go_simp
     with_reducible rfl
    rotate_left
    ·simp only [Act.put, List.setIfInBounds_toArray, List.set_cons_zero, List.set_cons_succ, i64_w, i32_w]
     rfl
    refine pure_ (i := 5) (N := some 27) (v := ?_) (a' := ?_) #[true, true, true, true, true, true, true, true, true, false, false, false, false, false, false, false, false, false, false, false, false, false, false, false, false, false, false, false, false, false] rfl rfl (by kernel_rfl) (fun _ _ _ h => h) (Or.inl ⟨by rfl, ?_⟩) ?_ ?_
    rotate_left
    ·intro w'
     go_simp
     with_reducible rfl
    rotate_left
    ·simp only [Act.put, List.setIfInBounds_toArray, List.set_cons_zero, List.set_cons_succ, i64_w, i32_w]
     rfl
    refine take_ (i := 9) (N := some 31) (v := ?_) (a' := ?_) #[true, true, true, true, true, true, true, true, true, true, false, false, false, false, false, false, false, false, false, false, false, false, false, false, false, false, false, false, false, false] rfl rfl (by kernel_rfl) (fun _ _ _ h => h) (Or.inl ⟨by rfl, ?_⟩) hHeld ?_ ?_
    rotate_left
    ·rintro w' ⟨s0, s1⟩
     go_simp
     with_reducible rfl
    rotate_left
    ·simp only [Act.put, List.setIfInBounds_toArray, List.set_cons_zero, List.set_cons_succ, i64_w, i32_w]
     rfl
    refine pure_ (i := 10) (N := some 32) (v := ?_) (a' := ?_) #[true, true, true, true, true, true, true, true, true, true, true, false, false, false, false, false, false, false, false, false, false, false, false, false, false, false, false, false, false, false] rfl rfl (by kernel_rfl) (fun _ _ _ h => h) (Or.inl ⟨by rfl, ?_⟩) ?_ ?_
    rotate_left
    ·intro w'
     go_simp
     with_reducible rfl
    rotate_left
    ·simp only [Act.put, List.setIfInBounds_toArray, List.set_cons_zero, List.set_cons_succ, i64_w, i32_w]
     rfl
    refine pure_ (i := 11) (N := some 33) (v := ?_) (a' := ?_) #[true, true, true, true, true, true, true, true, true, true, true, true, false, false, false, false, false, false, false, false, false, false, false, false, false, false, false, false, false, false] rfl rfl (by kernel_rfl) (fun _ _ _ h => h) (Or.inl ⟨by rfl, ?_⟩) ?_ ?_
    rotate_left
    ·intro w'
     go_simp
     with_reducible rfl
    rotate_left
    ·simp only [Act.put, List.setIfInBounds_toArray, List.set_cons_zero, List.set_cons_succ, i64_w, i32_w]
     rfl
    refine pure_ (i := 12) (N := some 34) (v := ?_) (a' := ?_) #[true, true, true, true, true, true, true, true, true, true, true, true, true, false, false, false, false, false, false, false, false, false, false, false, false, false, false, false, false, false] rfl rfl (by kernel_rfl) (fun _ _ _ h => h) (Or.inl ⟨by rfl, ?_⟩) ?_ ?_
    rotate_left
    ·intro w'
     go_simp
     with_reducible rfl
    rotate_left
    ·simp only [Act.put, List.setIfInBounds_toArray, List.set_cons_zero, List.set_cons_succ, i64_w, i32_w]
     rfl
    refine pure_ (i := 13) (N := some 35) (v := undef) (a' := ?_) #[true, true, true, true, true, true, true, true, true, true, true, true, true, true, false, false, false, false, false, false, false, false, false, false, false, false, false, false, false, false] rfl rfl (by kernel_rfl) (fun _ _ _ h => h) (Or.inr ⟨by rfl, rfl⟩) ?_ ?_
    rotate_left
    ·simp only [Act.put, List.setIfInBounds_toArray, List.set_cons_zero, List.set_cons_succ, i64_w, i32_w]
     rfl
    refine pure_ (i := 14) (N := some 36) (v := undef) (a' := ?_) #[true, true, true, true, true, true, true, true, true, true, true, true, true, true, true, false, false, false, false, false, false, false, false, false, false, false, false, false, false, false] rfl rfl (by kernel_rfl) (fun _ _ _ h => h) (Or.inr ⟨by rfl, rfl⟩) ?_ ?_
    rotate_left
    ·simp only [Act.put, List.setIfInBounds_toArray, List.set_cons_zero, List.set_cons_succ, i64_w, i32_w]
     rfl
    refine pure_ (i := 15) (N := some 37) (v := undef) (a' := ?_) #[true, true, true, true, true, true, true, true, true, true, true, true, true, true, true, true, false, false, false, false, false, false, false, false, false, false, false, false, false, false] rfl rfl (by kernel_rfl) (fun _ _ _ h => h) (Or.inr ⟨by rfl, rfl⟩) ?_ ?_
    rotate_left
    ·simp only [Act.put, List.setIfInBounds_toArray, List.set_cons_zero, List.set_cons_succ, i64_w, i32_w]
     rfl
    refine pure_ (i := 16) (N := some 38) (v := undef) (a' := ?_) #[true, true, true, true, true, true, true, true, true, true, true, true, true, true, true, true, true, false, false, false, false, false, false, false, false, false, false, false, false, false] rfl rfl (by kernel_rfl) (fun _ _ _ h => h) (Or.inr ⟨by rfl, rfl⟩) ?_ ?_
    rotate_left
    ·simp only [Act.put, List.setIfInBounds_toArray, List.set_cons_zero, List.set_cons_succ, i64_w, i32_w]
     rfl
    refine pure_ (i := 17) (N := some 39) (v := undef) (a' := ?_) #[true, true, true, true, true, true, true, true, true, true, true, true, true, true, true, true, true, true, false, false, false, false, false, false, false, false, false, false, false, false] rfl rfl (by kernel_rfl) (fun _ _ _ h => h) (Or.inr ⟨by rfl, rfl⟩) ?_ ?_
    rotate_left
    ·simp only [Act.put, List.setIfInBounds_toArray, List.set_cons_zero, List.set_cons_succ, i64_w, i32_w]
     rfl
    refine pure_ (i := 18) (N := some 40) (v := undef) (a' := ?_) #[true, true, true, true, true, true, true, true, true, true, true, true, true, true, true, true, true, true, true, false, false, false, false, false, false, false, false, false, false, false] rfl rfl (by kernel_rfl) (fun _ _ _ h => h) (Or.inr ⟨by rfl, rfl⟩) ?_ ?_
    rotate_left
    ·simp only [Act.put, List.setIfInBounds_toArray, List.set_cons_zero, List.set_cons_succ, i64_w, i32_w]
     rfl
    refine pure_ (i := 19) (N := some 41) (v := undef) (a' := ?_) #[true, true, true, true, true, true, true, true, true, true, true, true, true, true, true, true, true, true, true, true, false, false, false, false, false, false, false, false, false, false] rfl rfl (by kernel_rfl) (fun _ _ _ h => h) (Or.inr ⟨by rfl, rfl⟩) ?_ ?_
    rotate_left
    ·simp only [Act.put, List.setIfInBounds_toArray, List.set_cons_zero, List.set_cons_succ, i64_w, i32_w]
     rfl
    refine pure_ (i := 20) (N := some 42) (v := undef) (a' := ?_) #[true, true, true, true, true, true, true, true, true, true, true, true, true, true, true, true, true, true, true, true, true, false, false, false, false, false, false, false, false, false] rfl rfl (by kernel_rfl) (fun _ _ _ h => h) (Or.inr ⟨by rfl, rfl⟩) ?_ ?_
    rotate_left
    ·simp only [Act.put, List.setIfInBounds_toArray, List.set_cons_zero, List.set_cons_succ, i64_w, i32_w]
     rfl
    refine pure_ (i := 21) (N := some 43) (v := undef) (a' := ?_) #[true, true, true, true, true, true, true, true, true, true, true, true, true, true, true, true, true, true, true, true, true, true, false, false, false, false, false, false, false, false] rfl rfl (by kernel_rfl) (fun _ _ _ h => h) (Or.inr ⟨by rfl, rfl⟩) ?_ ?_
    rotate_left
    ·simp only [Act.put, List.setIfInBounds_toArray, List.set_cons_zero, List.set_cons_succ, i64_w, i32_w]
     rfl
    refine pure_ (i := 22) (N := some 44) (v := undef) (a' := ?_) #[true, true, true, true, true, true, true, true, true, true, true, true, true, true, true, true, true, true, true, true, true, true, true, false, false, false, false, false, false, false] rfl rfl (by kernel_rfl) (fun _ _ _ h => h) (Or.inr ⟨by rfl, rfl⟩) ?_ ?_
    rotate_left
    ·simp only [Act.put, List.setIfInBounds_toArray, List.set_cons_zero, List.set_cons_succ, i64_w, i32_w]
     rfl
    refine pure_ (i := 23) (N := some 45) (v := undef) (a' := ?_) #[true, true, true, true, true, true, true, true, true, true, true, true, true, true, true, true, true, true, true, true, true, true, true, true, false, false, false, false, false, false] rfl rfl (by kernel_rfl) (fun _ _ _ h => h) (Or.inr ⟨by rfl, rfl⟩) ?_ ?_
    rotate_left
    ·simp only [Act.put, List.setIfInBounds_toArray, List.set_cons_zero, List.set_cons_succ, i64_w, i32_w]
     rfl
    refine pure_ (i := 24) (N := some 46) (v := undef) (a' := ?_) #[true, true, true, true, true, true, true, true, true, true, true, true, true, true, true, true, true, true, true, true, true, true, true, true, true, false, false, false, false, false] rfl rfl (by kernel_rfl) (fun _ _ _ h => h) (Or.inr ⟨by rfl, rfl⟩) ?_ ?_
    rotate_left
    ·simp only [Act.put, List.setIfInBounds_toArray, List.set_cons_zero, List.set_cons_succ, i64_w, i32_w]
     rfl
    refine pure_ (i := 25) (N := some 47) (v := undef) (a' := ?_) #[true, true, true, true, true, true, true, true, true, true, true, true, true, true, true, true, true, true, true, true, true, true, true, true, true, true, false, false, false, false] rfl rfl (by kernel_rfl) (fun _ _ _ h => h) (Or.inr ⟨by rfl, rfl⟩) ?_ ?_
    rotate_left
    ·simp only [Act.put, List.setIfInBounds_toArray, List.set_cons_zero, List.set_cons_succ, i64_w, i32_w]
     rfl
    refine pure_ (i := 26) (N := some 48) (v := undef) (a' := ?_) #[true, true, true, true, true, true, true, true, true, true, true, true, true, true, true, true, true, true, true, true, true, true, true, true, true, true, true, false, false, false] rfl rfl (by kernel_rfl) (fun _ _ _ h => h) (Or.inr ⟨by rfl, rfl⟩) ?_ ?_
    rotate_left
    ·simp only [Act.put, List.setIfInBounds_toArray, List.set_cons_zero, List.set_cons_succ, i64_w, i32_w]
     rfl
    refine pure_ (i := 27) (N := some 49) (v := undef) (a' := ?_) #[true, true, true, true, true, true, true, true, true, true, true, true, true, true, true, true, true, true, true, true, true, true, true, true, true, true, true, true, false, false] rfl rfl (by kernel_rfl) (fun _ _ _ h => h) (Or.inr ⟨by rfl, rfl⟩) ?_ ?_
    rotate_left
    ·simp only [Act.put, List.setIfInBounds_toArray, List.set_cons_zero, List.set_cons_succ, i64_w, i32_w]
     rfl
    refine pure_ (i := 28) (N := some 50) (v := undef) (a' := ?_) #[true, true, true, true, true, true, true, true, true, true, true, true, true, true, true, true, true, true, true, true, true, true, true, true, true, true, true, true, true, false] rfl rfl (by kernel_rfl) (fun _ _ _ h => h) (Or.inr ⟨by rfl, rfl⟩) ?_ ?_
    rotate_left
    ·simp only [Act.put, List.setIfInBounds_toArray, List.set_cons_zero, List.set_cons_succ, i64_w, i32_w]
     rfl
    refine pure_ (i := 29) (N := some 51) (v := ?_) (a' := ?_) #[true, true, true, true, true, true, true, true, true, true, true, true, true, true, true, true, true, true, true, true, true, true, true, true, true, true, true, true, true, true] rfl rfl (by kernel_rfl) (fun _ _ _ h => h) (Or.inl ⟨by rfl, ?_⟩) ?_ ?_
    rotate_left
    ·intro w'
     go_simp
     with_reducible rfl
    rotate_left
    ·simp only [Act.put, List.setIfInBounds_toArray, List.set_cons_zero, List.set_cons_succ, i64_w, i32_w]
     rfl
    refine done_ (by kernel_rfl) ?_
    go_wp2
    go_roundw
    case rel => exact ⟨.inr (.inr ⟨rfl, hno, HN⟩), ⟨H0.out⟩⟩
    case measure => simp [intOf]
  ·have HX : Aside0 ((false, (⟨at_, line, l, c⟩ : RSt)) = (b, x)) := ⟨by have := HS.out; rw [if_neg hno.out, if_neg hno1.out] at this; exact this⟩
   go_wp2
   go_ret
   obtain ⟨rfl, rfl⟩ := Prod.mk.inj HX.out
   exact ⟨rfl, HH.out⟩
theorem rc_one (g : Nat) (s : ByteArray) (at_ line : Int) (l : List S29) (c : List S32) (w0 W : World) (h : Rc w0 W g s ⟨at_, line, l, c⟩) (hl : l.length ≤ 500000) (hln : line ≤ 1000000) (hln0 : 0 ≤ line) (hc : c.length ≤ 1000000) (ha : 0 ≤ at_) (ha1 : at_ < s.size) (hs : s.size ≤ 100000) (b : Bool) (x : RSt) (hres : oneR s at_ line l c = (b, x)) :
  Calls Tryd.prog 42 #[.pointer (some ⟨g, 0, none⟩)] W fun e W' => e = .returned (.bool b) ∧ Rc w0 W' g s x := by
 unfold oneR at hres
 by_cases a1 : bt s at_ = 32
 ·rw [if_pos (.inl a1)] at hres
  obtain ⟨rfl, rfl⟩ := Prod.mk.inj hres
  exact rc_one1 g s at_ line l c w0 W h hl hln hln0 hc ha ha1 hs (by simpa using a1)
 have u32 : (bt s at_ == 32) = false := by simpa using a1
 by_cases a2 : bt s at_ = 9
 ·rw [if_pos (.inr a2)] at hres
  obtain ⟨rfl, rfl⟩ := Prod.mk.inj hres
  exact rc_one2 g s at_ line l c w0 W h hl hln hln0 hc ha ha1 hs u32 (by simpa using a2)
 have u9 : (bt s at_ == 9) = false := by simpa using a2
 rw [if_neg (by rintro (e | e); exact a1 e; exact a2 e)] at hres
 by_cases a3 : bt s at_ = 10
 ·rw [if_pos a3] at hres
  obtain ⟨rfl, rfl⟩ := Prod.mk.inj hres
  exact rc_one3 g s at_ line l c w0 W h hl hln hln0 hc ha ha1 hs u32 u9 (by simpa using a3)
 rw [if_neg a3] at hres
 have u10 : (bt s at_ == 10) = false := by simpa using a3
 by_cases a4 : bt s at_ = 59
 ·rw [if_pos a4] at hres
  obtain ⟨rfl, rfl⟩ := Prod.mk.inj hres
  exact rc_one4 g s at_ line l c w0 W h hl hln hln0 hc ha ha1 hs u32 u9 u10 (by simpa using a4)
 rw [if_neg a4] at hres
 have u59 : (bt s at_ == 59) = false := by simpa using a4
 by_cases a5 : bt s at_ = 47
 ·rw [if_pos a5] at hres
  have u47 : (bt s at_ == 47) = true := by simpa using a5
  by_cases k2 : at_ + 1 < s.size
  ·by_cases k3 : bt s (at_ + 1) = 47
   ·rw [if_pos (show isCom s at_ from ⟨k2, k3⟩)] at hres
    obtain ⟨rfl, rfl⟩ := Prod.mk.inj hres
    exact rc_one7 g s at_ line l c w0 W h hl hln hln0 hc ha ha1 hs u32 u9 u10 u59 u47 k2 k3
   ·rw [if_neg (show ¬ isCom s at_ from fun h => k3 h.2)] at hres
    obtain ⟨rfl, rfl⟩ := Prod.mk.inj hres
    exact rc_one6 g s at_ line l c w0 W h hl hln hln0 hc ha ha1 hs u32 u9 u10 u59 u47 k2 k3
  ·rw [if_neg (show ¬ isCom s at_ from fun h => k2 h.1)] at hres
   obtain ⟨rfl, rfl⟩ := Prod.mk.inj hres
   exact rc_one5 g s at_ line l c w0 W h hl hln hln0 hc ha ha1 hs u32 u9 u10 u59 u47 k2
 rw [if_neg a5] at hres
 have u47 : (bt s at_ == 47) = false := by simpa using a5
 by_cases a6 : bt s at_ = 34
 ·rw [if_pos a6] at hres
  exact rc_one8 g s at_ line l c w0 W h hl hln hln0 hc ha ha1 hs u32 u9 u10 u59 u47 (by simpa using a6) b x hres
 rw [if_neg a6] at hres
 have u34 : (bt s at_ == 34) = false := by simpa using a6
 cases ud : digitP (bt s at_) with
 | true =>
  rw [if_pos ud] at hres
  obtain ⟨R, hR⟩ : ∃ R, runP digitP s s.size at_ = R := ⟨_, rfl⟩
  have hbd := runP_bd digitP s s.size at_ (by omega)
  rw [hR] at hres hbd
  by_cases k1 : R - at_ > 12
  ·rw [if_pos (show rnumBad s at_ R from .inl k1)] at hres
   obtain ⟨rfl, rfl⟩ := Prod.mk.inj hres
   exact rc_num1 g s at_ line l c R w0 W h hl hln hln0 hc ha ha1 hs u32 u9 u10 u59 u47 u34 ud hR hbd.1 hbd.2 k1
  by_cases k2 : R - at_ > 1
  ·by_cases k48 : bt s at_ = 48
   ·rw [if_pos (show rnumBad s at_ R from .inr (.inl ⟨k2, k48⟩))] at hres
    obtain ⟨rfl, rfl⟩ := Prod.mk.inj hres
    exact rc_num2 g s at_ line l c R w0 W h hl hln hln0 hc ha ha1 hs u32 u9 u10 u59 u47 u34 ud hR hbd.1 hbd.2 k1 k2 (by simpa using k48)
   have u48 : (bt s at_ == 48) = false := by simpa using k48
   by_cases k3 : R < s.size
   ·cases ulr : letterP (bt s R) with
    | true =>
     rw [if_pos (show rnumBad s at_ R from .inr (.inr ⟨k3, ulr⟩))] at hres
     obtain ⟨rfl, rfl⟩ := Prod.mk.inj hres
     exact rc_num3a g s at_ line l c R w0 W h hl hln hln0 hc ha ha1 hs u32 u9 u10 u59 u47 u34 ud hR hbd.1 hbd.2 k1 k2 u48 k3 ulr
    | false =>
     rw [if_neg (show ¬ rnumBad s at_ R from by rintro (h | h | h); exact k1 h; exact k48 h.2; rw [ulr] at h; exact absurd h.2 (by decide))] at hres
     obtain ⟨rfl, rfl⟩ := Prod.mk.inj hres
     exact rc_num4a g s at_ line l c R w0 W h hl hln hln0 hc ha ha1 hs u32 u9 u10 u59 u47 u34 ud hR hbd.1 hbd.2 k1 k2 u48 k3 ulr
   ·rw [if_neg (show ¬ rnumBad s at_ R from by rintro (h | h | h); exact k1 h; exact k48 h.2; exact k3 h.1)] at hres
    obtain ⟨rfl, rfl⟩ := Prod.mk.inj hres
    exact rc_num5a g s at_ line l c R w0 W h hl hln hln0 hc ha ha1 hs u32 u9 u10 u59 u47 u34 ud hR hbd.1 hbd.2 k1 k2 u48 k3
  ·by_cases k3 : R < s.size
   ·cases ulr : letterP (bt s R) with
    | true =>
     rw [if_pos (show rnumBad s at_ R from .inr (.inr ⟨k3, ulr⟩))] at hres
     obtain ⟨rfl, rfl⟩ := Prod.mk.inj hres
     exact rc_num3b g s at_ line l c R w0 W h hl hln hln0 hc ha ha1 hs u32 u9 u10 u59 u47 u34 ud hR hbd.1 hbd.2 k1 k2 k3 ulr
    | false =>
     rw [if_neg (show ¬ rnumBad s at_ R from by rintro (h | h | h); exact k1 h; exact k2 h.1; rw [ulr] at h; exact absurd h.2 (by decide))] at hres
     obtain ⟨rfl, rfl⟩ := Prod.mk.inj hres
     exact rc_num4b g s at_ line l c R w0 W h hl hln hln0 hc ha ha1 hs u32 u9 u10 u59 u47 u34 ud hR hbd.1 hbd.2 k1 k2 k3 ulr
   ·rw [if_neg (show ¬ rnumBad s at_ R from by rintro (h | h | h); exact k1 h; exact k2 h.1; exact k3 h.1)] at hres
    obtain ⟨rfl, rfl⟩ := Prod.mk.inj hres
    exact rc_num5b g s at_ line l c R w0 W h hl hln hln0 hc ha ha1 hs u32 u9 u10 u59 u47 u34 ud hR hbd.1 hbd.2 k1 k2 k3
 | false =>
  rw [if_neg (by rw [ud]; decide)] at hres
  cases ul : letterP (bt s at_) with
  | true =>
   rw [if_pos ul] at hres
   obtain ⟨R, hR⟩ : ∃ R, runP wordP s s.size at_ = R := ⟨_, rfl⟩
   have hbd := runP_bd wordP s s.size at_ (by omega)
   rw [hR] at hres hbd
   by_cases k1 : R - at_ > 24
   ·rw [if_pos k1] at hres
    obtain ⟨rfl, rfl⟩ := Prod.mk.inj hres
    exact rc_nam1 g s at_ line l c R w0 W h hl hln hln0 hc ha ha1 hs u32 u9 u10 u59 u47 u34 ud ul hR hbd.1 hbd.2 k1
   ·rw [if_neg k1] at hres
    obtain ⟨rfl, rfl⟩ := Prod.mk.inj hres
    cases uk : keyP (s.extract at_.toNat R.toNat) with
    | true => rw [if_pos rfl]; exact rc_nam_true g s at_ line l c R w0 W h hl hln hln0 hc ha ha1 hs u32 u9 u10 u59 u47 u34 ud ul hR hbd.1 hbd.2 k1 uk
    | false => rw [if_neg (by decide)]; exact rc_nam_false g s at_ line l c R w0 W h hl hln hln0 hc ha ha1 hs u32 u9 u10 u59 u47 u34 ud ul hR hbd.1 hbd.2 k1 uk
  | false =>
   rw [if_neg (by rw [ul]; decide)] at hres
   exact rc_ops g s at_ line l c w0 W h hl hln hln0 hc ha ha1 hs u32 u9 u10 u59 u47 u34 ud ul b x hres

end Go.Proofs.YtohhnblaoihgbaaDoor.PScan
