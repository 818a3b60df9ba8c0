-- Written by myprint.py (the prover's own turn of the printer); not trusted: Lean checks it.
import Derived.Test.YtohhnblaoihgbaaDoorPScanCoversx0
import Derived.Test.YtohhnblaoihgbaaDoorPScanCoversx1
import Derived.Test.YtohhnblaoihgbaaDoorPScanCoversx2
namespace Go.Proofs.YtohhnblaoihgbaaDoor.PScanCovers
open Go.RowKit Go.Proofs.YtohhnblaoihgbaaDoorW.PrintWords Go.Proofs.YtohhnblaoihgbaaDoorW.PrintLast Go.Proofs.YtohhnblaoihgbaaDoorW.PrintMore
attribute [local go_sem] str_leq op_leq op_gtr op_geq max2_int min2_int max_two min_two max_three min_three max_four min_four   -- for this text's walks alone
set_option linter.unusedVariables false
set_option linter.unusedSimpArgs false

/-! ### scan_scanner_number: function 36 -/
theorem digit_f (c : Int) : name_Digit.f c = some (digitP c) := by
 unfold name_Digit.f digitP
 by_cases h1 : c ≥ 48 <;> by_cases h2 : c ≤ 57 <;> simp [h1, h2]
theorem digit_c (c : Int) (b : Bool) (hb : digitP c = b) (w : World) : Calls Tryd.prog 35 #[.int .u8 c] w fun e w' => e = .returned (.bool b) ∧ Drawn0 w w' := name_Digit.calls c b w ((digit_f c).trans (congrArg some hb))
def numBad (s : ByteArray) (at_ : Int) (t : ByteArray) : Prop := t.size > 12 ∨ (t.size > 1 ∧ bt t 0 = 48) ∨ (at_ + t.size < s.size ∧ letterP (bt s (at_ + t.size)) = true)
instance (s : ByteArray) (at_ : Int) (t : ByteArray) : Decidable (numBad s at_ t) := by unfold numBad; exact inferInstance
def numberP (s : ByteArray) (at_ line : Int) (l : List S29) (c : List S32) (fault : Int) (t : ByteArray) : ScSt := if numBad s at_ t then ⟨at_, line, l, c, at_⟩ else putP at_ line l c fault 2 t
set_option maxHeartbeats 4000000 in
set_option maxRecDepth 100000 in
theorem sc_number1 (g : Nat) (s : ByteArray) (at_ line : Int) (l : List S29) (c : List S32) (fault : Int) (t : ByteArray) (w0 W : World) (h : Sc w0 W g s ⟨at_, line, l, c, fault⟩) (hl : l.length ≤ 1000000) (ha : 0 ≤ at_) (ha2 : at_ ≤ 1000000) (ht : t.size ≤ 1000000) (h1 : t.size > 12) :
  Calls Tryd.prog 36 #[.pointer (some ⟨g, 0, none⟩), .string t] W fun e W' => e = .returned (.tuple #[]) ∧ Sc w0 W' g s ⟨at_, line, l, c, at_⟩ := by
 have q0 := h.q0
 have q1 := h.q1
 have q2 := h.q2
 have q5 := h.q5
 have f1 := h.fz 1
 have f2 := h.fz 2
 have f5 := h.fz 5
 have b1 : decide ((12 : Int) < (t.size : Int)) = true := decide_eq_true (by omega)
 have HH := Aside0.mk h
 clear h
 go_enter Tryd.func36, Tryd.ntmps36
 go_wp2
 first | go_end0 | ((try simp only [Exit.inBlock, Exit.then]); refine bodyPost_ret (results_none rfl _ _ _) rfl ?_)
 exact ⟨rfl, HH.out.set5 at_⟩
set_option maxHeartbeats 4000000 in
set_option maxRecDepth 100000 in
theorem sc_number2 (g : Nat) (s : ByteArray) (at_ line : Int) (l : List S29) (c : List S32) (fault : Int) (t : ByteArray) (w0 W : World) (h : Sc w0 W g s ⟨at_, line, l, c, fault⟩) (hl : l.length ≤ 1000000) (ha : 0 ≤ at_) (ha2 : at_ ≤ 1000000) (ht : t.size ≤ 1000000) (h1 : ¬ t.size > 12) (h2 : t.size > 1) (h3 : bt t 0 = 48) :
  Calls Tryd.prog 36 #[.pointer (some ⟨g, 0, none⟩), .string t] W fun e W' => e = .returned (.tuple #[]) ∧ Sc w0 W' g s ⟨at_, line, l, c, at_⟩ := by
 have q0 := h.q0
 have q1 := h.q1
 have q2 := h.q2
 have q5 := h.q5
 have f1 := h.fz 1
 have f2 := h.fz 2
 have f5 := h.fz 5
 have b1 : decide ((12 : Int) < (t.size : Int)) = false := decide_eq_false (by omega)
 have b2 : decide ((1 : Int) < (t.size : Int)) = true := decide_eq_true (by omega)
 have p0 : 0 < t.size := by omega
 have hx : ((t[0]'p0).toNat : Int) = 48 := (bt_at t 0 p0).trans h3
 have HH := Aside0.mk h
 clear h
 go_enter Tryd.func36, Tryd.ntmps36
 go_wp2
 first | go_end0 | ((try simp only [Exit.inBlock, Exit.then]); refine bodyPost_ret (results_none rfl _ _ _) rfl ?_)
 exact ⟨rfl, HH.out.set5 at_⟩
set_option maxHeartbeats 4000000 in
set_option maxRecDepth 100000 in
theorem sc_number3 (g : Nat) (s : ByteArray) (at_ line : Int) (l : List S29) (c : List S32) (fault : Int) (t : ByteArray) (w0 W : World) (h : Sc w0 W g s ⟨at_, line, l, c, fault⟩) (hl : l.length ≤ 1000000) (ha : 0 ≤ at_) (ha2 : at_ ≤ 1000000) (ht : t.size ≤ 1000000) (h1 : ¬ t.size > 12) (h2 : ¬ (t.size > 1 ∧ bt t 0 = 48)) (h4 : at_ + t.size < s.size) (h5 : letterP (bt s (at_ + t.size)) = true) :
  Calls Tryd.prog 36 #[.pointer (some ⟨g, 0, none⟩), .string t] W fun e W' => e = .returned (.tuple #[]) ∧ Sc w0 W' g s ⟨at_, line, l, c, at_⟩ := by
 have q0 := h.q0
 have q1 := h.q1
 have q2 := h.q2
 have q5 := h.q5
 have f1 := h.fz 1
 have f2 := h.fz 2
 have f5 := h.fz 5
 have b1 : decide ((12 : Int) < (t.size : Int)) = false := decide_eq_false (by omega)
 have b4 : decide (at_ + (t.size : Int) < (s.size : Int)) = true := decide_eq_true h4
 have p6 := eq_true (show 0 ≤ at_ + (t.size : Int) by omega)
 have q6 := eq_true h4
 have hx := bt_at s (at_ + (t.size : Int))
 have HK := Aside0.mk h5
 have HH := Aside0.mk h
 clear h h5
 by_cases h3 : t.size > 1
 ·have b2 : decide ((1 : Int) < (t.size : Int)) = true := decide_eq_true (by omega)
  have p0 : 0 < t.size := by omega
  have b3 : (bt t 0 == 48) = false := by simpa using fun e => h2 ⟨h3, e⟩
  have hy : ((t[0]'p0).toNat : Int) = bt t 0 := bt_at t 0 p0
  clear h2
  go_enter Tryd.func36, Tryd.ntmps36
  go_wp2_with (go_at_call 31; (with_reducible refine (letter_c (bt s (at_ + (t.size : Int))) true HK.out _).mono ?_); rintro e w1 ⟨rfl, ⟨nd, rfl⟩⟩; have q1 := (HH.out.drewN nd).q1; have f5 := (HH.out.drewN nd).fz 5)
  first | go_end0 | ((try simp only [Exit.inBlock, Exit.then]); refine bodyPost_ret (results_none rfl _ _ _) rfl ?_)
  exact ⟨rfl, (HH.out.drewN _).set5 at_⟩
 ·have b2 : decide ((1 : Int) < (t.size : Int)) = false := decide_eq_false (by omega)
  clear h2
  go_enter Tryd.func36, Tryd.ntmps36
  go_wp2_with (go_at_call 31; (with_reducible refine (letter_c (bt s (at_ + (t.size : Int))) true HK.out _).mono ?_); rintro e w1 ⟨rfl, ⟨nd, rfl⟩⟩; have q1 := (HH.out.drewN nd).q1; have f5 := (HH.out.drewN nd).fz 5)
  first | go_end0 | ((try simp only [Exit.inBlock, Exit.then]); refine bodyPost_ret (results_none rfl _ _ _) rfl ?_)
  exact ⟨rfl, (HH.out.drewN _).set5 at_⟩
set_option maxHeartbeats 4000000 in
set_option maxRecDepth 100000 in
theorem sc_number4 (g : Nat) (s : ByteArray) (at_ line : Int) (l : List S29) (c : List S32) (fault : Int) (t : ByteArray) (w0 W : World) (h : Sc w0 W g s ⟨at_, line, l, c, fault⟩) (hl : l.length ≤ 1000000) (ha : 0 ≤ at_) (ha2 : at_ ≤ 1000000) (ht : t.size ≤ 1000000) (h1 : ¬ t.size > 12) (h2 : ¬ (t.size > 1 ∧ bt t 0 = 48)) (h4 : ¬ (at_ + t.size < s.size ∧ letterP (bt s (at_ + t.size)) = true)) :
  Calls Tryd.prog 36 #[.pointer (some ⟨g, 0, none⟩), .string t] W fun e W' => e = .returned (.tuple #[]) ∧ Sc w0 W' g s (putP at_ line l c fault 2 t) := by
 have q0 := h.q0
 have q1 := h.q1
 have q2 := h.q2
 have q5 := h.q5
 have f1 := h.fz 1
 have f2 := h.fz 2
 have f5 := h.fz 5
 have b1 : decide ((12 : Int) < (t.size : Int)) = false := decide_eq_false (by omega)
 have HH := Aside0.mk h
 clear h
 by_cases h5 : at_ + (t.size : Int) < s.size
 ·have h6 : letterP (bt s (at_ + t.size)) = false := by cases hh : letterP (bt s (at_ + t.size)) with | true => exact absurd ⟨h5, hh⟩ h4 | false => rfl
  have b4 : decide (at_ + (t.size : Int) < (s.size : Int)) = true := decide_eq_true h5
  have p6 := eq_true (show 0 ≤ at_ + (t.size : Int) by omega)
  have q6 := eq_true h5
  have hx := bt_at s (at_ + (t.size : Int))
  have HK := Aside0.mk h6
  clear h4 h5 h6
  by_cases h3 : t.size > 1
  ·have b2 : decide ((1 : Int) < (t.size : Int)) = true := decide_eq_true (by omega)
   have p0 : 0 < t.size := by omega
   have b3 : (bt t 0 == 48) = false := by simpa using fun e => h2 ⟨h3, e⟩
   have hy : ((t[0]'p0).toNat : Int) = bt t 0 := bt_at t 0 p0
   clear h2
   go_enter Tryd.func36, Tryd.ntmps36
   go_wp2_with (first | (go_at_call 31; (with_reducible refine (letter_c (bt s (at_ + (t.size : Int))) false HK.out _).mono ?_); rintro e w1 ⟨rfl, ⟨nd, rfl⟩⟩; have q1 := (HH.out.drewN nd).q1; have f5 := (HH.out.drewN nd).fz 5) | (go_at_call 24; (with_reducible refine (sc_put g s at_ line l c fault 2 t w0 _ (HH.out.drewN _) hl ha ha2 ht).mono ?_); rintro e w2 ⟨rfl, h2⟩; have H2 := Aside0.mk h2; clear h2))
   first | go_end0 | ((try simp only [Exit.inBlock, Exit.then]); refine bodyPost_ret (results_none rfl _ _ _) rfl ?_)
   exact ⟨rfl, H2.out⟩
  ·have b2 : decide ((1 : Int) < (t.size : Int)) = false := decide_eq_false (by omega)
   clear h2
   go_enter Tryd.func36, Tryd.ntmps36
   go_wp2_with (first | (go_at_call 31; (with_reducible refine (letter_c (bt s (at_ + (t.size : Int))) false HK.out _).mono ?_); rintro e w1 ⟨rfl, ⟨nd, rfl⟩⟩; have q1 := (HH.out.drewN nd).q1; have f5 := (HH.out.drewN nd).fz 5) | (go_at_call 24; (with_reducible refine (sc_put g s at_ line l c fault 2 t w0 _ (HH.out.drewN _) hl ha ha2 ht).mono ?_); rintro e w2 ⟨rfl, h2⟩; have H2 := Aside0.mk h2; clear h2))
   first | go_end0 | ((try simp only [Exit.inBlock, Exit.then]); refine bodyPost_ret (results_none rfl _ _ _) rfl ?_)
   exact ⟨rfl, H2.out⟩
 ·have b4 : decide (at_ + (t.size : Int) < (s.size : Int)) = false := decide_eq_false h5
  clear h4 h5
  by_cases h3 : t.size > 1
  ·have b2 : decide ((1 : Int) < (t.size : Int)) = true := decide_eq_true (by omega)
   have p0 : 0 < t.size := by omega
   have b3 : (bt t 0 == 48) = false := by simpa using fun e => h2 ⟨h3, e⟩
   have hy : ((t[0]'p0).toNat : Int) = bt t 0 := bt_at t 0 p0
   clear h2
   go_enter Tryd.func36, Tryd.ntmps36
   go_wp2_with (go_at_call 24; (with_reducible refine (sc_put g s at_ line l c fault 2 t w0 _ HH.out hl ha ha2 ht).mono ?_); rintro e w2 ⟨rfl, h2⟩; have H2 := Aside0.mk h2; clear h2)
   first | go_end0 | ((try simp only [Exit.inBlock, Exit.then]); refine bodyPost_ret (results_none rfl _ _ _) rfl ?_)
   exact ⟨rfl, H2.out⟩
  ·have b2 : decide ((1 : Int) < (t.size : Int)) = false := decide_eq_false (by omega)
   clear h2
   go_enter Tryd.func36, Tryd.ntmps36
   go_wp2_with (go_at_call 24; (with_reducible refine (sc_put g s at_ line l c fault 2 t w0 _ HH.out hl ha ha2 ht).mono ?_); rintro e w2 ⟨rfl, h2⟩; have H2 := Aside0.mk h2; clear h2)
   first | go_end0 | ((try simp only [Exit.inBlock, Exit.then]); refine bodyPost_ret (results_none rfl _ _ _) rfl ?_)
   exact ⟨rfl, H2.out⟩
theorem sc_number (g : Nat) (s : ByteArray) (at_ line : Int) (l : List S29) (c : List S32) (fault : Int) (t : ByteArray) (w0 W : World) (h : Sc w0 W g s ⟨at_, line, l, c, fault⟩) (hl : l.length ≤ 1000000) (ha : 0 ≤ at_) (ha2 : at_ ≤ 1000000) (ht : t.size ≤ 1000000) :
  Calls Tryd.prog 36 #[.pointer (some ⟨g, 0, none⟩), .string t] W fun e W' => e = .returned (.tuple #[]) ∧ Sc w0 W' g s (numberP s at_ line l c fault t) := by
 unfold numberP
 by_cases h1 : t.size > 12
 ·rw [if_pos (show numBad s at_ t from .inl h1)]; exact sc_number1 g s at_ line l c fault t w0 W h hl ha ha2 ht h1
 by_cases h2 : t.size > 1 ∧ bt t 0 = 48
 ·rw [if_pos (show numBad s at_ t from .inr (.inl h2))]; exact sc_number2 g s at_ line l c fault t w0 W h hl ha ha2 ht h1 h2.1 h2.2
 by_cases h3 : at_ + t.size < s.size ∧ letterP (bt s (at_ + t.size)) = true
 ·rw [if_pos (show numBad s at_ t from .inr (.inr h3))]; exact sc_number3 g s at_ line l c fault t w0 W h hl ha ha2 ht h1 h2 h3.1 h3.2
 ·rw [if_neg (show ¬ numBad s at_ t from by rintro (h | h | h); exact h1 h; exact h2 h; exact h3 h)]; exact sc_number4 g s at_ line l c fault t w0 W h hl ha ha2 ht h1 h2 h3

/-! ### strings_IndexByte: function 47 -/
def strings_IndexByte.f (a0 : ByteArray) (a1 : Int) : Option (Int) := (stringslite_IndexByte.f a0 a1).bind fun t117 => (some t117)
set_option maxHeartbeats 8000000 in
set_option maxRecDepth 100000 in
theorem strings_IndexByte.calls (a0 : ByteArray) (a1 : Int) (r : Int) (w : World) (h : strings_IndexByte.f a0 a1 = some r) :
  Calls Tryd.prog 47 #[.string a0, .int .u8 a1] w fun e w' => e = .returned (.int .i64 r) ∧ Drawn0 w w' := by
 have H : ((stringslite_IndexByte.f a0 a1).bind fun t117 => (some t117)) = some r := h
 clear h
 replace H := Option.bind_eq_some_iff.mp H
 obtain ⟨t117, A30, H⟩ := H
 replace H : (some t117) = some r := H
 have A3 := Aside0.mk A30
 clear A30
 obtain rfl := Option.some.inj H
 go_enter Tryd.func47, Tryd.ntmps47
 go_wp2_with (first | ((with_reducible refine gate_callee (f := 60) rfl ?_); refine goesL_ (some 7) rfl rfl Tryd.func60 (by kernel_rfl) rfl #[.string a0, .int .u8 a1] rfl (by (try simp only [List.map_toArray, List.map_cons, List.map_nil]); first | done | rfl | (simp only [List.length_drop, List.length_take]; rfl) | (simp only [wrap64_wl, wrap64_wr]; rfl)) ?_; (with_reducible refine (stringslite_IndexByte.calls a0 a1 t117 _ A3.out).mono ?_); rintro e w' ⟨rfl, ⟨nd, rfl⟩⟩; refine ⟨_, rfl, ?_⟩))
 go_ret
 exact ⟨by first | rfl | (simp; done) | (simp [*]; done), by repeat (first | exact Drawn0.refl _ | apply Drawn0.step)⟩

/-! ### scan_scanner_text: function 37 -/
theorem quote_c (t : ByteArray) (n : Int) (hn : Lib.indexByte t.data.toList 34 = n) (w : World) : Calls Tryd.prog 47 #[.string t, .int .u8 34] w fun e w' => e = .returned (.int .i64 n) ∧ Drawn0 w w' := strings_IndexByte.calls t 34 n w (congrArg some hn)
def quoteN (t : ByteArray) : Int := Lib.indexByte (t.extract 1 t.size).data.toList 34
def textP (at_ line : Int) (l : List S29) (c : List S32) (fault : Int) (t : ByteArray) : ScSt := if quoteN t < 0 then ⟨at_, line, l, c, at_⟩ else putP at_ line l c fault 3 (t.extract 0 (quoteN t + 2).toNat)
set_option maxHeartbeats 4000000 in
set_option maxRecDepth 100000 in
theorem sc_text (g : Nat) (s : ByteArray) (at_ line : Int) (l : List S29) (c : List S32) (fault : Int) (t : ByteArray) (w0 W : World) (h : Sc w0 W g s ⟨at_, line, l, c, fault⟩) (hl : l.length ≤ 1000000) (ha : 0 ≤ at_) (ha2 : at_ ≤ 1000000) (ht : t.size ≤ 1000000) (h0 : 0 < t.size) :
  Calls Tryd.prog 37 #[.pointer (some ⟨g, 0, none⟩), .string t] W fun e W' => e = .returned (.tuple #[]) ∧ Sc w0 W' g s (textP at_ line l c fault t) := by
 unfold textP
 have k1 := Lib.indexByte_ge (t.extract 1 t.size).data.toList 34
 have k2 := indexByte_lt (t.extract 1 t.size).data.toList 34
 have k3 : (t.extract 1 t.size).data.toList.length = t.size - 1 := by simp
 obtain ⟨n, hn⟩ : ∃ n, quoteN t = n := ⟨_, rfl⟩
 have hn' : Lib.indexByte (t.extract 1 t.size).data.toList 34 = n := hn
 rw [hn]
 rw [hn'] at k1 k2
 rw [k3] at k2
 have HN := Aside0.mk hn'
 have HH := Aside0.mk h
 have q0 := h.q0
 have q1 := h.q1
 have q2 := h.q2
 have q5 := h.q5
 have f1 := h.fz 1
 have f2 := h.fz 2
 have f5 := h.fz 5
 clear hn hn' k3 h
 have p0 : (1 : Int) ≤ (t.size : Int) := by omega
 have b0 : decide ((1 : Int) ≤ (t.size : Int)) = true := decide_eq_true p0
 by_cases h1 : n < 0
 ·rw [if_pos h1]
  have b1 : decide (n < 0) = true := decide_eq_true h1
  go_enter Tryd.func37, Tryd.ntmps37
  go_wp2_with (go_at_call 47; (with_reducible refine (quote_c _ n HN.out _).mono ?_); rintro e w1 ⟨rfl, ⟨nd, rfl⟩⟩; have q1 := (HH.out.drewN nd).q1; have f5 := (HH.out.drewN nd).fz 5)
  first | go_end0 | ((try simp only [Exit.inBlock, Exit.then]); refine bodyPost_ret (results_none rfl _ _ _) rfl ?_)
  exact ⟨rfl, (HH.out.drewN _).set5 at_⟩
 ·rw [if_neg h1]
  have b1 : decide (n < 0) = false := decide_eq_false h1
  have e2 : IntKind.i64.wrap (n + 2) = n + 2 := IntWalk.i64_in _ (by omega)
  have p2 : (0 : Int) ≤ n + 2 := by omega
  have p3 : n + 2 ≤ (t.size : Int) := by omega
  have b2 : decide ((0 : Int) ≤ n + 2) = true := decide_eq_true p2
  have b3 : decide (n + 2 ≤ (t.size : Int)) = true := decide_eq_true p3
  have hsz : (t.extract 0 (n + 2).toNat).size ≤ 1000000 := by rw [ByteArray.size_extract]; omega
  go_enter Tryd.func37, Tryd.ntmps37
  go_wp2_with (first | (go_at_call 47; (with_reducible refine (quote_c _ n HN.out _).mono ?_); rintro e w1 ⟨rfl, ⟨nd, rfl⟩⟩) | (go_at_call 24; (with_reducible refine (sc_put g s at_ line l c fault 3 _ w0 _ (HH.out.drewN _) hl ha ha2 hsz).mono ?_); rintro e w2 ⟨rfl, h2⟩; have H2 := Aside0.mk h2; clear h2))
  first | go_end0 | ((try simp only [Exit.inBlock, Exit.then]); refine bodyPost_ret (results_none rfl _ _ _) rfl ?_)
  exact ⟨rfl, H2.out⟩

/-! ### token_Op: function 48 -/
def token_Op.f (k : Nat) (a0 : ByteArray) : Option (Bool) := (slices_Contains_string_string.f k (([(⟨#[40]⟩ : ByteArray), (⟨#[41]⟩ : ByteArray), (⟨#[123]⟩ : ByteArray), (⟨#[125]⟩ : ByteArray), (⟨#[44]⟩ : ByteArray), (⟨#[46]⟩ : ByteArray), (⟨#[58]⟩ : ByteArray), (⟨#[58, 61]⟩ : ByteArray), (⟨#[61]⟩ : ByteArray), (⟨#[61, 61]⟩ : ByteArray), (⟨#[33, 61]⟩ : ByteArray), (⟨#[60]⟩ : ByteArray), (⟨#[43]⟩ : ByteArray), (⟨#[45]⟩ : ByteArray), (⟨#[42]⟩ : ByteArray), (⟨#[33]⟩ : ByteArray), (⟨#[38, 38]⟩ : ByteArray), (⟨#[124, 124]⟩ : ByteArray)] : List ByteArray)) a0).bind fun t121 => (some t121)
theorem token_Op.mono : ∀ a0 k, LeO (token_Op.f k a0) (token_Op.f (k + 1) a0) := by
 intro a0 k
 unfold token_Op.f
 repeat' first
   | (with_reducible exact slices_Contains_string_string.mono _ _ _)
   | (with_reducible exact LeO.refl _)
   | (with_reducible exact LeO.none _)
   | (with_reducible refine LeO.ite ?_ ?_)
   | (with_reducible refine LeO.bind ?_ (fun _ => ?_))
   | exact slices_Contains_string_string.mono _ _ _
   | exact LeO.none _
   | refine LeO.ite ?_ ?_
   | refine LeO.bind ?_ (fun _ => ?_)
set_option maxHeartbeats 8000000 in
set_option maxRecDepth 100000 in
theorem token_Op.calls (k : Nat) (a0 : ByteArray) (r : Bool) (w : World) (h : token_Op.f k a0 = some r) :
  Calls Tryd.prog 48 #[.string a0] w fun e w' => e = .returned (.bool r) ∧ Below w.heap.size w w' := by
 have HB := Aside0.mk (Below.refl w.heap.size w)
 have H : ((slices_Contains_string_string.f k (([(⟨#[40]⟩ : ByteArray), (⟨#[41]⟩ : ByteArray), (⟨#[123]⟩ : ByteArray), (⟨#[125]⟩ : ByteArray), (⟨#[44]⟩ : ByteArray), (⟨#[46]⟩ : ByteArray), (⟨#[58]⟩ : ByteArray), (⟨#[58, 61]⟩ : ByteArray), (⟨#[61]⟩ : ByteArray), (⟨#[61, 61]⟩ : ByteArray), (⟨#[33, 61]⟩ : ByteArray), (⟨#[60]⟩ : ByteArray), (⟨#[43]⟩ : ByteArray), (⟨#[45]⟩ : ByteArray), (⟨#[42]⟩ : ByteArray), (⟨#[33]⟩ : ByteArray), (⟨#[38, 38]⟩ : ByteArray), (⟨#[124, 124]⟩ : ByteArray)] : List ByteArray)) a0).bind fun t121 => (some t121)) = some r := h
 clear h
 obtain ⟨y118, hy118⟩ : ∃ y_ : List ByteArray, y_ = (([(⟨#[40]⟩ : ByteArray), (⟨#[41]⟩ : ByteArray), (⟨#[123]⟩ : ByteArray), (⟨#[125]⟩ : ByteArray), (⟨#[44]⟩ : ByteArray), (⟨#[46]⟩ : ByteArray), (⟨#[58]⟩ : ByteArray), (⟨#[58, 61]⟩ : ByteArray), (⟨#[61]⟩ : ByteArray), (⟨#[61, 61]⟩ : ByteArray), (⟨#[33, 61]⟩ : ByteArray), (⟨#[60]⟩ : ByteArray), (⟨#[43]⟩ : ByteArray), (⟨#[45]⟩ : ByteArray), (⟨#[42]⟩ : ByteArray), (⟨#[33]⟩ : ByteArray), (⟨#[38, 38]⟩ : ByteArray), (⟨#[124, 124]⟩ : ByteArray)] : List ByteArray)) := ⟨_, rfl⟩
 replace H : ((slices_Contains_string_string.f k y118 a0).bind fun t121 => (some t121)) = some r := by first | (rw [hy118]; with_reducible exact H) | (have H2_ := (Option.bind_some _ _).symm.trans H; rw [hy118]; with_reducible exact H2_) | (have H2_ := (Option.bind_some _ _).symm.trans H; with_reducible exact H2_) | with_reducible exact H | (rw [hy118]; exact H) | exact H
 have Ny118 := Aside0.mk hy118
 clear hy118
 replace H := Option.bind_eq_some_iff.mp H
 obtain ⟨t121, A20, H⟩ := H
 replace H : (some t121) = some r := H
 have A2 := Aside0.mk A20
 clear A20
 obtain rfl := Option.some.inj H
 go_enter Tryd.func48, Tryd.ntmps48
 go_wp2_with (first | ((with_reducible refine gate_dst (N := 3) rfl ?_); refine Kd.R_lit Kd.string _ 9 ?hg (N := 3) ?hd (xs := ([(⟨#[40]⟩ : ByteArray), (⟨#[41]⟩ : ByteArray), (⟨#[123]⟩ : ByteArray), (⟨#[125]⟩ : ByteArray), (⟨#[44]⟩ : ByteArray), (⟨#[46]⟩ : ByteArray), (⟨#[58]⟩ : ByteArray), (⟨#[58, 61]⟩ : ByteArray), (⟨#[61]⟩ : ByteArray), (⟨#[61, 61]⟩ : ByteArray), (⟨#[33, 61]⟩ : ByteArray), (⟨#[60]⟩ : ByteArray), (⟨#[43]⟩ : ByteArray), (⟨#[45]⟩ : ByteArray), (⟨#[42]⟩ : ByteArray), (⟨#[33]⟩ : ByteArray), (⟨#[38, 38]⟩ : ByteArray), (⟨#[124, 124]⟩ : ByteArray)] : List ByteArray)) (inner := [.string (⟨#[40]⟩ : ByteArray), .string (⟨#[41]⟩ : ByteArray), .string (⟨#[123]⟩ : ByteArray), .string (⟨#[125]⟩ : ByteArray), .string (⟨#[44]⟩ : ByteArray), .string (⟨#[46]⟩ : ByteArray), .string (⟨#[58]⟩ : ByteArray), .string (⟨#[58, 61]⟩ : ByteArray), .string (⟨#[61]⟩ : ByteArray), .string (⟨#[61, 61]⟩ : ByteArray), .string (⟨#[33, 61]⟩ : ByteArray), .string (⟨#[60]⟩ : ByteArray), .string (⟨#[43]⟩ : ByteArray), .string (⟨#[45]⟩ : ByteArray), .string (⟨#[42]⟩ : ByteArray), .string (⟨#[33]⟩ : ByteArray), .string (⟨#[38, 38]⟩ : ByteArray), .string (⟨#[124, 124]⟩ : ByteArray)]) (ok := fun _ => True) (okp := fun _ => True) ?hr ?hp (fun _ hk => hk) trivial (Below.refl _ _) (Nat.le_refl _) (by simp) ?_; (case hd => rfl); (case hg => rfl); (case hr => first | (go_simp; done) | (go_simp; rfl)); (case hp => exact (Reps.one (show Kd.M Kd.string _ _ _ (⟨#[40]⟩ : ByteArray) [.string (⟨#[40]⟩ : ByteArray)] from rfl) (Reps.one (show Kd.M Kd.string _ _ _ (⟨#[41]⟩ : ByteArray) [.string (⟨#[41]⟩ : ByteArray)] from rfl) (Reps.one (show Kd.M Kd.string _ _ _ (⟨#[123]⟩ : ByteArray) [.string (⟨#[123]⟩ : ByteArray)] from rfl) (Reps.one (show Kd.M Kd.string _ _ _ (⟨#[125]⟩ : ByteArray) [.string (⟨#[125]⟩ : ByteArray)] from rfl) (Reps.one (show Kd.M Kd.string _ _ _ (⟨#[44]⟩ : ByteArray) [.string (⟨#[44]⟩ : ByteArray)] from rfl) (Reps.one (show Kd.M Kd.string _ _ _ (⟨#[46]⟩ : ByteArray) [.string (⟨#[46]⟩ : ByteArray)] from rfl) (Reps.one (show Kd.M Kd.string _ _ _ (⟨#[58]⟩ : ByteArray) [.string (⟨#[58]⟩ : ByteArray)] from rfl) (Reps.one (show Kd.M Kd.string _ _ _ (⟨#[58, 61]⟩ : ByteArray) [.string (⟨#[58, 61]⟩ : ByteArray)] from rfl) (Reps.one (show Kd.M Kd.string _ _ _ (⟨#[61]⟩ : ByteArray) [.string (⟨#[61]⟩ : ByteArray)] from rfl) (Reps.one (show Kd.M Kd.string _ _ _ (⟨#[61, 61]⟩ : ByteArray) [.string (⟨#[61, 61]⟩ : ByteArray)] from rfl) (Reps.one (show Kd.M Kd.string _ _ _ (⟨#[33, 61]⟩ : ByteArray) [.string (⟨#[33, 61]⟩ : ByteArray)] from rfl) (Reps.one (show Kd.M Kd.string _ _ _ (⟨#[60]⟩ : ByteArray) [.string (⟨#[60]⟩ : ByteArray)] from rfl) (Reps.one (show Kd.M Kd.string _ _ _ (⟨#[43]⟩ : ByteArray) [.string (⟨#[43]⟩ : ByteArray)] from rfl) (Reps.one (show Kd.M Kd.string _ _ _ (⟨#[45]⟩ : ByteArray) [.string (⟨#[45]⟩ : ByteArray)] from rfl) (Reps.one (show Kd.M Kd.string _ _ _ (⟨#[42]⟩ : ByteArray) [.string (⟨#[42]⟩ : ByteArray)] from rfl) (Reps.one (show Kd.M Kd.string _ _ _ (⟨#[33]⟩ : ByteArray) [.string (⟨#[33]⟩ : ByteArray)] from rfl) (Reps.one (show Kd.M Kd.string _ _ _ (⟨#[38, 38]⟩ : ByteArray) [.string (⟨#[38, 38]⟩ : ByteArray)] from rfl) (Reps.one (show Kd.M Kd.string _ _ _ (⟨#[124, 124]⟩ : ByteArray) [.string (⟨#[124, 124]⟩ : ByteArray)] from rfl) (Reps.none _ _)))))))))))))))))))); intro v119 w3 ho4 hb hg_ hnew_; clear hg_ hnew_; (first | rw [← Ny118.out] at ho4 | (simp only [Int.reduceToNat] at ho4; rw [← Ny118.out] at ho4)); have n0_ := Aside0.mk (Kd.R_lower ho4 (below_size (by repeat (first | (with_reducible first | exact HB.out | apply below_alloc | apply pw_below_drewN | apply below_drew1) | exact HB.out)))); have n1_ := Aside0.mk (below_step (by repeat (first | (with_reducible first | exact HB.out | apply below_alloc | apply pw_below_drewN | apply below_drew1) | exact HB.out)) hb); clear HB; have HO120 := n0_; have HB := n1_; clear n0_ n1_; clear hb ho4; obtain ⟨Ao5, co5, eo5⟩ := Kd.R_slice HO120.out; subst eo5) | ((with_reducible refine gate_callee (f := 61) rfl ?_); refine goesL_ (some 5) rfl rfl Tryd.func61 (by kernel_rfl) rfl #[.slice Ao5 y118.length co5, .string a0] rfl (by (try simp only [List.map_toArray, List.map_cons, List.map_nil]); first | done | rfl | (simp only [List.length_drop, List.length_take]; rfl) | (simp only [wrap64_wl, wrap64_wr]; rfl)) ?_; (with_reducible refine (slices_Contains_string_string.calls k _ _ y118 a0 t121 _ ?side1 ?side2 A2.out).mono ?_); (case side1 => repeat (first | exact (Kd.R_reads' HO120.out).2.2 | (with_reducible refine Kd.C_alloc ?_ _) | (with_reducible refine Kd.C_drewN ?_ _) | (with_reducible refine Kd.C_drew ?_))); (case side2 => exact (Kd.R_reads' HO120.out).2.1); rintro e w' ⟨rfl, ⟨nd, rfl⟩⟩; refine ⟨_, rfl, ?_⟩))
 go_ret
 exact ⟨by first | rfl | (simp [errW_none, errW_some] <;> rfl) | (simp [*, errW_none, errW_some] <;> rfl), by repeat (first | (with_reducible first | exact HB.out | apply below_alloc | apply pw_below_drewN | apply below_drew1) | exact HB.out)⟩

end Go.Proofs.YtohhnblaoihgbaaDoor.PScanCovers
