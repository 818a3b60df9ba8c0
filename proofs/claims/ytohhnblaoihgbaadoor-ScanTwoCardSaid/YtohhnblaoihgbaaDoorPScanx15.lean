-- Written by myprint.py (the prover's own turn of the printer); not trusted: Lean checks it.
import Derived.Test.YtohhnblaoihgbaaDoorPScanx0
import Derived.Test.YtohhnblaoihgbaaDoorPScanx1
import Derived.Test.YtohhnblaoihgbaaDoorPScanx4
import Derived.Test.YtohhnblaoihgbaaDoorPScanx5
import Derived.Test.YtohhnblaoihgbaaDoorPScanx6
import Derived.Test.YtohhnblaoihgbaaDoorPScanx8
import Derived.Test.YtohhnblaoihgbaaDoorPScanx10
import Derived.Test.YtohhnblaoihgbaaDoorPScanx11
import Derived.Test.YtohhnblaoihgbaaDoorPScanx12
import Derived.Test.YtohhnblaoihgbaaDoorPScanx14
namespace Go.Proofs.YtohhnblaoihgbaaDoor.PScan
open Go.RowKit Go.Proofs.YtohhnblaoihgbaaDoorW.PrintWords Go.Proofs.YtohhnblaoihgbaaDoorW.PrintLast Go.Proofs.YtohhnblaoihgbaaDoorW.PrintMore
attribute [local go_sem] str_leq op_leq op_gtr op_geq max2_int min2_int max_two min_two max_three min_three max_four min_four   -- for this text's walks alone
set_option linter.unusedVariables false
set_option linter.unusedSimpArgs false

/-! ### recensionref1_Scan: function 25 -/
structure RGood (s : ByteArray) (x : RSt) : Prop where
 a0 : 0 ≤ x.at_
 a1 : x.at_ ≤ s.size
 n0 : 0 ≤ x.line
 n1 : x.line ≤ x.at_ + 1
 l1 : (x.l.length : Int) ≤ 2 * x.at_
 c1 : (x.c.length : Int) ≤ x.at_
theorem add_good {s : ByteArray} {at_ line : Int} {l : List S29} {c : List S32} (h : RGood s ⟨at_, line, l, c⟩) (kind t_ : Int) (h1 : at_ < t_) (h2 : t_ ≤ s.size) : RGood s (addP s at_ line l c kind t_) ∧ at_ < (addP s at_ line l c kind t_).at_ := by
 obtain ⟨a, b, n, n1, d, e⟩ := h
 simp only at a b n n1 d e
 unfold addP
 refine ⟨⟨?_, ?_, ?_, ?_, ?_, ?_⟩, ?_⟩ <;> simp <;> omega
theorem oneR_good {s : ByteArray} {at_ line : Int} {l : List S29} {c : List S32} {b : Bool} {y : RSt} (h : RGood s ⟨at_, line, l, c⟩) (hlt : at_ < s.size) (hres : oneR s at_ line l c = (b, y)) : (b = true → RGood s y ∧ at_ < y.at_) ∧ (b = false → y = ⟨at_, line, l, c⟩) := by
 obtain ⟨a, b', n, n1, d, e⟩ := id h
 simp only at a b' n n1 d e
 have hsl := semiL_le l at_ line
 unfold oneR at hres
 by_cases a1 : bt s at_ = 32 ∨ bt s at_ = 9
 ·rw [if_pos a1] at hres
  obtain ⟨rfl, rfl⟩ := Prod.mk.inj hres
  refine ⟨fun _ => ⟨⟨?_, ?_, ?_, ?_, ?_, ?_⟩, ?_⟩, fun h => absurd h (by decide)⟩ <;> simp only <;> omega
 rw [if_neg a1] at hres
 by_cases a2 : bt s at_ = 10
 ·rw [if_pos a2] at hres
  obtain ⟨rfl, rfl⟩ := Prod.mk.inj hres
  refine ⟨fun _ => ⟨⟨?_, ?_, ?_, ?_, ?_, ?_⟩, ?_⟩, fun h => absurd h (by decide)⟩ <;> simp only <;> omega
 rw [if_neg a2] at hres
 by_cases a3 : bt s at_ = 59
 ·rw [if_pos a3] at hres
  obtain ⟨rfl, rfl⟩ := Prod.mk.inj hres
  exact ⟨fun _ => add_good h _ _ (by omega) (by omega), fun h => absurd h (by decide)⟩
 rw [if_neg a3] at hres
 by_cases a4 : bt s at_ = 47
 ·rw [if_pos a4] at hres
  by_cases k : isCom s at_
  ·rw [if_pos k] at hres
   obtain ⟨rfl, rfl⟩ := Prod.mk.inj hres
   have q := runP_bd notNl s s.size at_ (by omega)
   have q2 := runP_pos notNl s at_ a hlt (by unfold notNl; rw [a4]; decide)
   unfold comYes
   refine ⟨fun _ => ⟨⟨?_, ?_, ?_, ?_, ?_, ?_⟩, ?_⟩, fun h => absurd h (by decide)⟩ <;> simp only [List.length_append, List.length_singleton] <;> omega
  ·rw [if_neg k] at hres
   obtain ⟨rfl, rfl⟩ := Prod.mk.inj hres
   exact ⟨fun h => absurd h (by decide), fun _ => rfl⟩
 rw [if_neg a4] at hres
 by_cases a5 : bt s at_ = 34
 ·rw [if_pos a5] at hres
  have q := runP_bd strB s s.size (at_ + 1) (by omega)
  by_cases k : strBad s (runP strB s s.size (at_ + 1))
  ·rw [if_pos k] at hres
   obtain ⟨rfl, rfl⟩ := Prod.mk.inj hres
   exact ⟨fun h => absurd h (by decide), fun _ => rfl⟩
  ·rw [if_neg k] at hres
   obtain ⟨rfl, rfl⟩ := Prod.mk.inj hres
   have : runP strB s s.size (at_ + 1) ≠ s.size := fun e => k (.inl e)
   exact ⟨fun _ => add_good h _ _ (by omega) (by omega), fun h => absurd h (by decide)⟩
 rw [if_neg a5] at hres
 by_cases a6 : digitP (bt s at_) = true
 ·rw [if_pos a6] at hres
  have q := runP_bd digitP s s.size at_ (by omega)
  have q2 := runP_pos digitP s at_ a hlt a6
  by_cases k : rnumBad s at_ (runP digitP s s.size at_)
  ·rw [if_pos k] at hres
   obtain ⟨rfl, rfl⟩ := Prod.mk.inj hres
   exact ⟨fun h => absurd h (by decide), fun _ => rfl⟩
  ·rw [if_neg k] at hres
   obtain ⟨rfl, rfl⟩ := Prod.mk.inj hres
   exact ⟨fun _ => add_good h _ _ (by omega) (by omega), fun h => absurd h (by decide)⟩
 rw [if_neg a6] at hres
 by_cases a7 : letterP (bt s at_) = true
 ·rw [if_pos a7] at hres
  have q := runP_bd wordP s s.size at_ (by omega)
  have q2 := runP_pos wordP s at_ a hlt (by unfold wordP; rw [a7]; rfl)
  by_cases k : runP wordP s s.size at_ - at_ > 24
  ·rw [if_pos k] at hres
   obtain ⟨rfl, rfl⟩ := Prod.mk.inj hres
   exact ⟨fun h => absurd h (by decide), fun _ => rfl⟩
  ·rw [if_neg k] at hres
   obtain ⟨rfl, rfl⟩ := Prod.mk.inj hres
   exact ⟨fun _ => add_good h _ _ (by omega) (by omega), fun h => absurd h (by decide)⟩
 rw [if_neg a7] at hres
 by_cases o2 : opOk s at_ 2
 ·rw [if_pos o2] at hres
  obtain ⟨rfl, rfl⟩ := Prod.mk.inj hres
  exact ⟨fun _ => add_good h _ _ (by omega) (by have := o2.1; omega), fun h => absurd h (by decide)⟩
 rw [if_neg o2] at hres
 by_cases o1 : opOk s at_ 1
 ·rw [if_pos o1] at hres
  obtain ⟨rfl, rfl⟩ := Prod.mk.inj hres
  exact ⟨fun _ => add_good h _ _ (by omega) (by have := o1.1; omega), fun h => absurd h (by decide)⟩
 rw [if_neg o1] at hres
 obtain ⟨rfl, rfl⟩ := Prod.mk.inj hres
 exact ⟨fun h => absurd h (by decide), fun _ => rfl⟩
def refLoop (s : ByteArray) : Nat → RSt → Bool × RSt
 | 0, x => (true, x)
 | n + 1, x => if x.at_ < s.size then (if (oneR s x.at_ x.line x.l x.c).1 = true then refLoop s n (oneR s x.at_ x.line x.l x.c).2 else (false, (oneR s x.at_ x.line x.l x.c).2)) else (true, x)
theorem refLoop_end (s : ByteArray) (n : Nat) (x : RSt) (h : ¬ x.at_ < s.size) : refLoop s n x = (true, x) := by
 cases n with
 | zero => rfl
 | succ n => rw [refLoop, if_neg h]
theorem refLoop_step (s : ByteArray) (n : Nat) (at_ line : Int) (l : List S29) (c : List S32) (b : Bool) (y : RSt) (h1 : at_ < s.size) (h : oneR s at_ line l c = (b, y)) : refLoop s (n + 1) ⟨at_, line, l, c⟩ = if b = true then refLoop s n y else (false, y) := by rw [refLoop, if_pos h1]; simp only [h]
def refF (s : ByteArray) (F : Int) : Int := if s.size > 2000 ∧ (F < 0 ∨ F > 2000) then 2000 else F
def refEnd (s : ByteArray) (F : Int) (r : Bool × RSt) : List S29 × List S32 × Int :=
 if r.1 = true then (if refF s F ≥ 0 then ([], [], refF s F) else (semiL r.2.l r.2.at_ r.2.line ++ [⟨7, ⟨#[]⟩, s.size, r.2.line, false⟩], r.2.c, -1))
 else ([], [], if refF s F < 0 ∨ r.2.at_ < refF s F then r.2.at_ else refF s F)
def recensionref1_Scan.f (k : Nat) (a0 : ByteArray) : Option (List S29 × List S32 × Int) := if a0.size ≤ 100000 then (recensionref1_Fault.f k a0).bind fun F => some (refEnd a0 F (refLoop a0 (a0.size + 2) ⟨0, 1, [], []⟩)) else none
theorem recensionref1_Scan.mono : ∀ a0 k, LeO (recensionref1_Scan.f k a0) (recensionref1_Scan.f (k + 1) a0) := fun a0 k => LeO.ite (LeO.bind (recensionref1_Fault.mono _ _) (fun _ => LeO.refl _)) (LeO.none _)
theorem RGood.out {s : ByteArray} {at_ line : Int} {l : List S29} {c : List S32} (h : RGood s ⟨at_, line, l, c⟩) (hs : s.size ≤ 100000) : 0 ≤ at_ ∧ at_ ≤ s.size ∧ 0 ≤ line ∧ line ≤ 1000000 ∧ l.length ≤ 500000 ∧ c.length ≤ 1000000 := by
 obtain ⟨a, b, n, n1, d, e⟩ := h
 simp only at a b n n1 d e
 omega
def RefAt (w wr : World) (s : ByteArray) (R : Bool × RSt) : Prop := ∃ (x : RSt) (n : Nat), Rc w wr w.heap.size s x ∧ RGood s x ∧ refLoop s n x = R ∧ (s.size : Int) + 1 ≤ x.at_ + n
def refLeft (s : ByteArray) (wr : World) (g : Nat) : Nat := match wr.cell? ⟨g, 1, none⟩ with
 | some (.int _ a) => ((s.size : Int) - a).toNat
 | _ => 0
theorem refLeft_eq {w wr : World} {g : Nat} {s : ByteArray} {at_ line : Int} {l : List S29} {c : List S32} (h : Rc w wr g s ⟨at_, line, l, c⟩) : refLeft s wr g = ((s.size : Int) - at_).toNat := by
 unfold refLeft
 rw [h.q1]
set_option maxHeartbeats 4000000 in
set_option maxRecDepth 100000 in
theorem ref_walk1 (k : Nat) (s : ByteArray) (w : World) (hs : s.size ≤ 100000) (F : Int) (hF : recensionref1_Fault.f k s = some F) (R : Bool × RSt) (hR : refLoop s (s.size + 2) ⟨0, 1, [], []⟩ = R) (r1 : List S29) (r2 : List S32) (r3 : Int) (hE : refEnd s F R = (r1, r2, r3)) (c1 : ¬ s.size > 2000) :
  Calls Tryd.prog 25 #[.string s] w fun e w' => ∃ v0_ v1_ : Value, e = .returned (.tuple #[v0_, v1_, .int .i64 r3]) ∧ Kd.R k29 29 w' w.heap.size (fun _ => True) v0_ r1 ∧ Kd.R k32 32 w' w.heap.size (fun _ => True) v1_ r2 ∧ Below w.heap.size w w' := by
 unfold refEnd at hE
 rw [show refF s F = F from by unfold refF; rw [if_neg (fun h => c1 h.1)]] at hE
 have HF := Aside0.mk hF
 have HR := Aside0.mk hR
 have HE := Aside0.mk hE
 have HRC : Aside0 (∀ nd, Rc w ((w.alloc (.cells #[.string s, .int .i64 0, .int .i64 1, .slice none 0 0, .slice none 0 0] 62)).drewN nd) w.heap.size s ⟨0, 1, [], []⟩) := ⟨fun nd => Rc.drewN ⟨below_alloc (Below.refl _ _) _, Nat.le_refl _, .slice none 0 0, .slice none 0 0, by simpa using blk_new w (.cells #[.string s, .int .i64 0, .int .i64 1, .slice none 0 0, .slice none 0 0] 62), Kd.R_nil _ _ _ _ _, Kd.R_nil _ _ _ _ _⟩ nd⟩
 clear hF hR hE
 have a1 : decide ((2000 : Int) < (s.size : Int)) = false := decide_eq_false (by omega)
 go_enter Tryd.func25, Tryd.ntmps25
 go_wp2_with (go_at_call 41; (with_reducible refine (recensionref1_Fault.calls k s F _ HF.out).mono ?_); rintro e w' ⟨rfl, ⟨nd, rfl⟩⟩)
 go_loopw [6] (fun f wr => f = .int .i64 F ∧ Aside0 (RefAt w wr s R)) (fun _ wr => refLeft s wr w.heap.size)
 case atStart => exact ⟨rfl, ⟨⟨⟨0, 1, [], []⟩, s.size + 2, HRC.out _, ⟨by simp, by simp, by simp, by simp, by simp, by simp⟩, HR.out, by simp only; omega⟩⟩⟩
 case round =>
  clear HR HRC
  obtain ⟨rfl, hrel⟩ := hrel
  obtain ⟨⟨at_, line, l, c⟩, n, hsc, hgd, hlp, hn⟩ := hrel.out
  clear hrel
  have HM := Aside0.mk (refLeft_eq hsc)
  have HS := Aside0.mk hsc
  have HG := Aside0.mk hgd
  have HL := Aside0.mk hlp
  have HN := Aside0.mk hn
  obtain ⟨g0, g1, g2, g3, g4, g5⟩ := hgd.out hs
  clear hsc hgd hlp hn
  have q1 := HS.out.q1
  by_cases hlt : at_ < (s.size : Int)
  ·have b1 : decide (at_ < (s.size : Int)) = true := decide_eq_true hlt
   obtain ⟨m, hm⟩ : ∃ m, n = m + 1 := ⟨n - 1, by have := HN.out; simp only at this; omega⟩
   have HN1 : Aside0 ((s.size : Int) + 1 ≤ at_ + (m + 1)) := ⟨by have := HN.out; simp only at this; omega⟩
   obtain ⟨⟨b, y⟩, hy⟩ : ∃ z, oneR s at_ line l c = z := ⟨_, rfl⟩
   have HY := Aside0.mk hy
   have hgood := oneR_good HG.out hlt hy
   have hst := refLoop_step s m at_ line l c b y hlt hy
   rw [← hm, HL.out] at hst
   clear hm HN
   cases b with
   | true =>
    have HG2 := Aside0.mk (hgood.1 rfl)
    rw [if_pos rfl] at hst
    have HL2 := Aside0.mk hst.symm
    clear hgood hst hy
    go_wp2_with (go_at_call 42; (with_reducible refine (rc_one w.heap.size s at_ line l c w _ HS.out g4 g3 g2 g5 g0 hlt hs true y HY.out).mono ?_); rintro e w1 ⟨rfl, h1⟩; have H1 := Aside0.mk h1; clear h1; skip)
    go_roundw
    case rel => exact ⟨rfl, ⟨⟨y, m, H1.out, HG2.out.1, HL2.out, by have := HG2.out.2; have := HN1.out; omega⟩⟩⟩
    case measure =>
     have h2 := HG2.out.2
     have ha1 := HG2.out.1.a1
     rw [HM.out]
     obtain ⟨a', n', l', c'⟩ := y
     rw [refLeft_eq H1.out]
     simp only at h2 ha1
     omega
   | false =>
    have hy2 := hgood.2 rfl
    subst hy2
    rw [if_neg (by decide)] at hst
    rw [hst, if_neg (by simp)] at HE
    simp only at HE
    clear hst hgood hy HL
    by_cases k1 : F < 0
    ·have b2 : decide (F < 0) = true := decide_eq_true k1
     rw [if_pos (.inl k1)] at HE
     go_wp2_with (go_at_call 42; (with_reducible refine (rc_one w.heap.size s at_ line l c w _ HS.out g4 g3 g2 g5 g0 hlt hs false _ HY.out).mono ?_); rintro e w1 ⟨rfl, h1⟩; have H1 := Aside0.mk h1; clear h1; have q1 := H1.out.q1)
     go_ret3
     obtain ⟨rfl, rfl, rfl⟩ : [] = r1 ∧ [] = r2 ∧ _ = r3 := by simpa using HE.out
     exact ⟨_, _, rfl, Kd.R_nil _ _ _ _ _, Kd.R_nil _ _ _ _ _, by repeat (first | exact H1.out.below_ | apply pw_below_drewN | apply below_drew1)⟩
    ·have b2 : decide (F < 0) = false := decide_eq_false k1
     by_cases k2 : at_ < F
     ·have b3 : decide (at_ < F) = true := decide_eq_true k2
      rw [if_pos (.inr k2)] at HE
      go_wp2_with (go_at_call 42; (with_reducible refine (rc_one w.heap.size s at_ line l c w _ HS.out g4 g3 g2 g5 g0 hlt hs false _ HY.out).mono ?_); rintro e w1 ⟨rfl, h1⟩; have H1 := Aside0.mk h1; clear h1; have q1 := H1.out.q1)
      go_ret3
      obtain ⟨rfl, rfl, rfl⟩ : [] = r1 ∧ [] = r2 ∧ _ = r3 := by simpa using HE.out
      exact ⟨_, _, rfl, Kd.R_nil _ _ _ _ _, Kd.R_nil _ _ _ _ _, by repeat (first | exact H1.out.below_ | apply pw_below_drewN | apply below_drew1)⟩
     ·have b3 : decide (at_ < F) = false := decide_eq_false k2
      rw [if_neg (by rintro (h | h); exact k1 h; exact k2 h)] at HE
      go_wp2_with (go_at_call 42; (with_reducible refine (rc_one w.heap.size s at_ line l c w _ HS.out g4 g3 g2 g5 g0 hlt hs false _ HY.out).mono ?_); rintro e w1 ⟨rfl, h1⟩; have H1 := Aside0.mk h1; clear h1; have q1 := H1.out.q1)
      go_ret3
      obtain ⟨rfl, rfl, rfl⟩ : [] = r1 ∧ [] = r2 ∧ _ = r3 := by simpa using HE.out
      exact ⟨_, _, rfl, Kd.R_nil _ _ _ _ _, Kd.R_nil _ _ _ _ _, by repeat (first | exact H1.out.below_ | apply pw_below_drewN | apply below_drew1)⟩
  ·have b1 : decide (at_ < (s.size : Int)) = false := decide_eq_false hlt
   have hst := refLoop_end s n ⟨at_, line, l, c⟩ hlt
   rw [HL.out] at hst
   rw [hst, if_pos rfl] at HE
   simp only at HE
   clear hst HL HM HN HG
   by_cases kf : F ≥ 0
   ·have b4 : decide (0 ≤ F) = true := decide_eq_true kf
    rw [if_pos kf] at HE
    go_wp2
    go_ret3
    obtain ⟨rfl, rfl, rfl⟩ : [] = r1 ∧ [] = r2 ∧ _ = r3 := by simpa using HE.out
    exact ⟨_, _, rfl, Kd.R_nil _ _ _ _ _, Kd.R_nil _ _ _ _ _, by repeat (first | exact HS.out.below_ | apply pw_below_drewN | apply below_drew1)⟩
   ·have b4 : decide (0 ≤ F) = false := decide_eq_false kf
    rw [if_neg kf] at HE
    have hsl := semiL_le l at_ line
    obtain ⟨l5, hl5⟩ : ∃ l5, semiL l at_ line = l5 := ⟨_, rfl⟩
    rw [hl5] at HE hsl
    have HL5 := Aside0.mk hl5
    clear hl5
    go_wp2_with (go_at_call 43; (with_reducible refine (rc_semi w.heap.size s at_ line l c w _ HS.out (by omega)).mono ?_); rintro e w5 ⟨rfl, h5⟩; rw [HL5.out] at h5; have H5 := Aside0.mk h5; clear h5)
    obtain ⟨hB, hg, vl, vc, hb, hL, hC⟩ := H5.out
    simp only at hb hL hC
    have BK0 := Aside0.mk hb
    have HL0 := Aside0.mk hL
    have HC0 := Aside0.mk hC
    have HB0 := Aside0.mk hB
    clear hb hL hC hB
    have BK := Aside0.mk (blk_drew BK0.out)
    have HL := Aside0.mk (Kd.R_drew HL0.out)
    have HC := Aside0.mk (Kd.R_drew HC0.out)
    have HB := Aside0.mk (below_drew1 HB0.out)
    clear BK0 HL0 HC0 HB0
    refine start_ (n := 17) (S := fun w' => w'.cell? ⟨w.heap.size, 2, none⟩ = some (.int .i64 line) ∧ w'.cell? ⟨w.heap.size, 3, none⟩ = some (vl)) (ds := [16]) #[false, false, false, false, false, false, false, false, false, false, false, false, false, false, false, false, false] (by kernel_rfl) rfl rfl ⟨(blk_cell BK.out 2).trans rfl, (blk_cell BK.out 3).trans rfl⟩ (fun hHeld => ?_)
    generalize w5.drew = W1 at BK HL HC HB hHeld ⊢
    refine pure_ (i := 0) (N := some 53) (v := ?_) (a' := ?_) #[true, false, false, false, false, false, false, false, false, false, false, false, false, false, false, false, false] rfl rfl (by kernel_rfl) (fun _ _ _ h => h) (Or.inl ⟨by rfl, ?_⟩) ?_ ?_
    rotate_left
    ·intro w'
     go_simp
     with_reducible rfl
    rotate_left
    ·simp only [Act.put, List.setIfInBounds_toArray, List.set_cons_zero, List.set_cons_succ, i64_w, i32_w]
     rfl
    refine pure_ (i := 1) (N := some 54) (v := ?_) (a' := ?_) #[true, true, false, false, false, false, false, false, false, false, false, false, false, false, false, false, false] rfl rfl (by kernel_rfl) (fun _ _ _ h => h) (Or.inl ⟨by rfl, ?_⟩) ?_ ?_
    rotate_left
    ·intro w'
     go_simp
     with_reducible rfl
    rotate_left
    ·simp only [Act.put, List.setIfInBounds_toArray, List.set_cons_zero, List.set_cons_succ, i64_w, i32_w]
     rfl
    refine pure_ (i := 2) (N := some 55) (v := ?_) (a' := ?_) #[true, true, true, false, false, false, false, false, false, false, false, false, false, false, false, false, false] rfl rfl (by kernel_rfl) (fun _ _ _ h => h) (Or.inl ⟨by rfl, ?_⟩) ?_ ?_
    rotate_left
    ·intro w'
     go_simp
     with_reducible rfl
    rotate_left
    ·simp only [Act.put, List.setIfInBounds_toArray, List.set_cons_zero, List.set_cons_succ, i64_w, i32_w]
     rfl
    refine pure_ (i := 3) (N := some 56) (v := ?_) (a' := ?_) #[true, true, true, true, false, false, false, false, false, false, false, false, false, false, false, false, false] rfl rfl (by kernel_rfl) (fun _ _ _ h => h) (Or.inl ⟨by rfl, ?_⟩) ?_ ?_
    rotate_left
    ·intro w'
     go_simp
     with_reducible rfl
    rotate_left
    ·simp only [Act.put, List.setIfInBounds_toArray, List.set_cons_zero, List.set_cons_succ, i64_w, i32_w]
     rfl
    refine pure_ (i := 5) (N := some 58) (v := ?_) (a' := ?_) #[true, true, true, true, false, true, false, false, false, false, false, false, false, false, false, false, false] rfl rfl (by kernel_rfl) (fun _ _ _ h => h) (Or.inl ⟨by rfl, ?_⟩) ?_ ?_
    rotate_left
    ·intro w'
     go_simp
     with_reducible rfl
    rotate_left
    ·simp only [Act.put, List.setIfInBounds_toArray, List.set_cons_zero, List.set_cons_succ, i64_w, i32_w]
     rfl
    refine pure_ (i := 6) (N := some 59) (v := ?_) (a' := ?_) #[true, true, true, true, false, true, true, false, false, false, false, false, false, false, false, false, false] rfl rfl (by kernel_rfl) (fun _ _ _ h => h) (Or.inl ⟨by rfl, ?_⟩) ?_ ?_
    rotate_left
    ·intro w'
     go_simp
     with_reducible rfl
    rotate_left
    ·simp only [Act.put, List.setIfInBounds_toArray, List.set_cons_zero, List.set_cons_succ, i64_w, i32_w]
     rfl
    refine pure_ (i := 7) (N := some 60) (v := ?_) (a' := ?_) #[true, true, true, true, false, true, true, true, false, false, false, false, false, false, false, false, false] rfl rfl (by kernel_rfl) (fun _ _ _ h => h) (Or.inl ⟨by rfl, ?_⟩) ?_ ?_
    rotate_left
    ·intro w'
     go_simp
     with_reducible rfl
    rotate_left
    ·simp only [Act.put, List.setIfInBounds_toArray, List.set_cons_zero, List.set_cons_succ, i64_w, i32_w]
     rfl
    refine pure_ (i := 8) (N := some 61) (v := ?_) (a' := ?_) #[true, true, true, true, false, true, true, true, true, false, false, false, false, false, false, false, false] rfl rfl (by kernel_rfl) (fun _ _ _ h => h) (Or.inl ⟨by rfl, ?_⟩) ?_ ?_
    rotate_left
    ·intro w'
     go_simp
     with_reducible rfl
    rotate_left
    ·simp only [Act.put, List.setIfInBounds_toArray, List.set_cons_zero, List.set_cons_succ, i64_w, i32_w]
     rfl
    refine pure_ (i := 9) (N := some 62) (v := ?_) (a' := ?_) #[true, true, true, true, false, true, true, true, true, true, false, false, false, false, false, false, false] rfl rfl (by kernel_rfl) (fun _ _ _ h => h) (Or.inl ⟨by rfl, ?_⟩) ?_ ?_
    rotate_left
    ·intro w'
     go_simp
     with_reducible rfl
    rotate_left
    ·simp only [Act.put, List.setIfInBounds_toArray, List.set_cons_zero, List.set_cons_succ, i64_w, i32_w]
     rfl
    refine take_ (i := 4) (N := some 57) (v := ?_) (a' := ?_) #[true, true, true, true, true, true, true, true, true, true, false, false, false, false, false, false, false] rfl rfl (by kernel_rfl) (fun _ _ _ h => h) (Or.inl ⟨by rfl, ?_⟩) hHeld ?_ ?_
    rotate_left
    ·rintro w' ⟨s0, s1⟩
     go_simp
     with_reducible rfl
    rotate_left
    ·simp only [Act.put, List.setIfInBounds_toArray, List.set_cons_zero, List.set_cons_succ, i64_w, i32_w]
     rfl
    refine take_ (i := 10) (N := some 63) (v := ?_) (a' := ?_) #[true, true, true, true, true, true, true, true, true, true, true, false, false, false, false, false, false] rfl rfl (by kernel_rfl) (fun _ _ _ h => h) (Or.inl ⟨by rfl, ?_⟩) hHeld ?_ ?_
    rotate_left
    ·rintro w' ⟨s0, s1⟩
     go_simp
     with_reducible rfl
    rotate_left
    ·simp only [Act.put, List.setIfInBounds_toArray, List.set_cons_zero, List.set_cons_succ, i64_w, i32_w]
     rfl
    refine pure_ (i := 11) (N := some 64) (v := ?_) (a' := ?_) #[true, true, true, true, true, true, true, true, true, true, true, true, false, false, false, false, false] rfl rfl (by kernel_rfl) (fun _ _ _ h => h) (Or.inl ⟨by rfl, ?_⟩) ?_ ?_
    rotate_left
    ·intro w'
     go_simp
     with_reducible rfl
    rotate_left
    ·simp only [Act.put, List.setIfInBounds_toArray, List.set_cons_zero, List.set_cons_succ, i64_w, i32_w]
     rfl
    refine one_ (i := 12) (N := some 65) #[true, true, true, true, true, true, true, true, true, true, true, true, true, false, false, false, false] rfl rfl (by kernel_rfl) (by decide) (fun K hK => ?_)
    refine value_ (w1 := ?_) (v := ?_) (by rfl) rfl ?_ ?_
    rotate_left 2
    ·go_simp
     constructor
     ·rfl
     ·rfl
    refine hK.out _ _ ⟨(blk_cell (blk_alloc BK.out _) 2).trans rfl, (blk_cell (blk_alloc BK.out _) 3).trans rfl⟩ (fun hHeld => ?_)
    clear hK K
    refine norm_ (a' := ?_) ?_ ?_
    rotate_left
    ·show Act.put _ (some 65) _ = _
     simp only [Act.put, List.setIfInBounds_toArray, List.set_cons_zero, List.set_cons_succ, i64_w, i32_w]
     rfl
    refine one_ (i := 13) (N := some 66) #[true, true, true, true, true, true, true, true, true, true, true, true, true, true, false, false, false] rfl rfl (by kernel_rfl) (by decide) (fun K hK => ?_)
    refine Kd.R_append_step k29 (w0 := w) w.heap.size (by rfl) (.tmp 57) (.tmp 65) 24 29 (.agg #[(.int .i64 0), (.string ⟨#[]⟩), (.int .i64 0), (.int .i64 0), (.bool false)]) 48 rfl Tryd.underlying24 sc_info29 rfl (by decide) (by omega) vl l5 (⟨7, ⟨#[]⟩, (s.size : Int), line, false⟩ : S29) [.int .i64 7, .string ⟨#[]⟩, .int .i64 (s.size : Int), .int .i64 line, .bool false] (fun _ => True) (fun _ => False) rfl rfl ?aP (fun _ hk => hk.elim) (fun _ _ => trivial) ?aO ?aB ?aS ?aL ?_
    (case aP => exact k29_mkM _ _ _ (⟨7, ⟨#[]⟩, (s.size : Int), line, false⟩ : S29))
    (case aB => exact HB.out)
    (case aO => exact HL.out)
    (case aS => exact HB.out.size)
    (case aL => omega)
    intro v1 w2 ho hb hg hat
    obtain ⟨l2, hl2⟩ : ∃ l2, l5 ++ [(⟨7, ⟨#[]⟩, (s.size : Int), line, false⟩ : S29)] = l2 := ⟨_, rfl⟩
    rw [hl2] at ho
    have NL := Aside0.mk hl2
    clear hl2
    have BK2 := Aside0.mk (blk_grown BK.out hg (Kd.R_ne HL.out BK.out (by decide)))
    have HC2 := Aside0.mk (Kd.R_over HC.out HL.out sc_t32a hg)
    have HL2 := Aside0.mk ho
    have HB2 := Aside0.mk hb
    obtain ⟨A1, c1, rfl⟩ := Kd.R_slice ho
    clear ho hb hg hat HL HC HB
    have o3 := blk_frozen BK2.out 3
    have c3 := (blk_cell BK2.out 3).trans rfl
    refine hK.out _ _ ⟨(blk_cell BK2.out 2).trans rfl, (blk_cell BK2.out 3).trans rfl⟩ (fun hHeld => ?_)
    clear hK K
    refine norm_ (a' := ?_) ?_ ?_
    rotate_left
    ·show Act.put _ (some 66) _ = _
     simp only [Act.put, List.setIfInBounds_toArray, List.set_cons_zero, List.set_cons_succ, i64_w, i32_w]
     rfl
    refine pure_ (i := 14) (N := some 67) (v := ?_) (a' := ?_) #[true, true, true, true, true, true, true, true, true, true, true, true, true, true, true, false, false] rfl rfl (by kernel_rfl) (fun _ _ _ h => h) (Or.inl ⟨by rfl, ?_⟩) ?_ ?_
    rotate_left
    ·intro w'
     go_simp
     with_reducible rfl
    rotate_left
    ·simp only [Act.put, List.setIfInBounds_toArray, List.set_cons_zero, List.set_cons_succ, i64_w, i32_w]
     rfl
    refine pure_ (i := 15) (N := some 68) (v := ?_) (a' := ?_) #[true, true, true, true, true, true, true, true, true, true, true, true, true, true, true, true, false] rfl rfl (by kernel_rfl) (fun _ _ _ h => h) (Or.inl ⟨by rfl, ?_⟩) ?_ ?_
    rotate_left
    ·intro w'
     go_simp
     with_reducible rfl
    rotate_left
    ·simp only [Act.put, List.setIfInBounds_toArray, List.set_cons_zero, List.set_cons_succ, i64_w, i32_w]
     rfl
    refine last_ (i := 16) (N := none) #[true, true, true, true, true, true, true, true, true, true, true, true, true, true, true, true, true] rfl rfl (by kernel_rfl) (by decide) (fun K hK => ?_)
    refine skip_ (w1 := ?_) ?_ ?_ ?_ ?_
    rotate_left
    ·rfl
    ·rfl
    ·go_simp
     rfl
    refine hK.out _ _ ?_
    clear hK K
    refine done_ (by kernel_rfl) ?_
    
    have B3 := blk_put (cs' := #[.string s, .int .i64 at_, .int .i64 line, .slice A1 l2.length c1, vc]) BK2.out 3 (.slice A1 l2.length c1) rfl
    obtain ⟨w7, hw7⟩ : ∃ w7, w2.setCell ⟨w.heap.size, 3, none⟩ (.slice A1 l2.length c1) = w7 := ⟨_, rfl⟩
    have HL6 := Aside0.mk (Kd.R_set HL2.out BK2.out rc_t29 3 (.slice A1 l2.length c1))
    have HC6 := Aside0.mk (Kd.R_set HC2.out BK2.out rc_t32 3 (.slice A1 l2.length c1))
    have HB6 := Aside0.mk (below_set (j := 3) (v := .slice A1 l2.length c1) HB2.out hg)
    rw [hw7] at B3 HL6 HC6 HB6 ⊢
    clear hw7
    have q3 : w7.cell? ⟨w.heap.size, 3, none⟩ = some (.slice A1 l2.length c1) := (blk_cell B3 3).trans rfl
    have q4 : w7.cell? ⟨w.heap.size, 4, none⟩ = some vc := (blk_cell B3 4).trans rfl
    clear B3 BK2 HL2 HC2 HB2 o3 c3
    go_wp2
    go_quiet (fail)
    go_wp2
    go_ret3
    obtain ⟨e1, e2, e3⟩ : l5 ++ [(⟨7, ⟨#[]⟩, (s.size : Int), line, false⟩ : S29)] = r1 ∧ c = r2 ∧ (-1 : Int) = r3 := by simpa using HE.out
    rw [NL.out] at e1
    subst e1 e2 e3
    exact ⟨_, vc, rfl, by repeat (first | exact HL6.out | apply Kd.R_drewN | apply Kd.R_drew), by repeat (first | exact HC6.out | apply Kd.R_drewN | apply Kd.R_drew), by repeat (first | exact HB6.out | apply pw_below_drewN | apply below_drew1)⟩
set_option maxHeartbeats 4000000 in
set_option maxRecDepth 100000 in
theorem ref_walk2 (k : Nat) (s : ByteArray) (w : World) (hs : s.size ≤ 100000) (F : Int) (hF : recensionref1_Fault.f k s = some F) (R : Bool × RSt) (hR : refLoop s (s.size + 2) ⟨0, 1, [], []⟩ = R) (r1 : List S29) (r2 : List S32) (r3 : Int) (hE : refEnd s F R = (r1, r2, r3)) (c1 : s.size > 2000) (c2 : F < 0) :
  Calls Tryd.prog 25 #[.string s] w fun e w' => ∃ v0_ v1_ : Value, e = .returned (.tuple #[v0_, v1_, .int .i64 r3]) ∧ Kd.R k29 29 w' w.heap.size (fun _ => True) v0_ r1 ∧ Kd.R k32 32 w' w.heap.size (fun _ => True) v1_ r2 ∧ Below w.heap.size w w' := by
 unfold refEnd at hE
 rw [show refF s F = 2000 from by unfold refF; rw [if_pos ⟨c1, .inl c2⟩]] at hE
 have HF := Aside0.mk hF
 have HR := Aside0.mk hR
 have HE := Aside0.mk hE
 have HRC : Aside0 (∀ nd, Rc w ((w.alloc (.cells #[.string s, .int .i64 0, .int .i64 1, .slice none 0 0, .slice none 0 0] 62)).drewN nd) w.heap.size s ⟨0, 1, [], []⟩) := ⟨fun nd => Rc.drewN ⟨below_alloc (Below.refl _ _) _, Nat.le_refl _, .slice none 0 0, .slice none 0 0, by simpa using blk_new w (.cells #[.string s, .int .i64 0, .int .i64 1, .slice none 0 0, .slice none 0 0] 62), Kd.R_nil _ _ _ _ _, Kd.R_nil _ _ _ _ _⟩ nd⟩
 clear hF hR hE
 have a1 : decide ((2000 : Int) < (s.size : Int)) = true := decide_eq_true (by omega)
 have a2 : decide (F < 0) = true := decide_eq_true c2
 go_enter Tryd.func25, Tryd.ntmps25
 go_wp2_with (go_at_call 41; (with_reducible refine (recensionref1_Fault.calls k s F _ HF.out).mono ?_); rintro e w' ⟨rfl, ⟨nd, rfl⟩⟩)
 go_loopw [6] (fun f wr => f = .int .i64 2000 ∧ Aside0 (RefAt w wr s R)) (fun _ wr => refLeft s wr w.heap.size)
 case atStart => exact ⟨rfl, ⟨⟨⟨0, 1, [], []⟩, s.size + 2, HRC.out _, ⟨by simp, by simp, by simp, by simp, by simp, by simp⟩, HR.out, by simp only; omega⟩⟩⟩
 case round =>
  clear HR HRC
  obtain ⟨rfl, hrel⟩ := hrel
  obtain ⟨⟨at_, line, l, c⟩, n, hsc, hgd, hlp, hn⟩ := hrel.out
  clear hrel
  have HM := Aside0.mk (refLeft_eq hsc)
  have HS := Aside0.mk hsc
  have HG := Aside0.mk hgd
  have HL := Aside0.mk hlp
  have HN := Aside0.mk hn
  obtain ⟨g0, g1, g2, g3, g4, g5⟩ := hgd.out hs
  clear hsc hgd hlp hn
  have q1 := HS.out.q1
  by_cases hlt : at_ < (s.size : Int)
  ·have b1 : decide (at_ < (s.size : Int)) = true := decide_eq_true hlt
   obtain ⟨m, hm⟩ : ∃ m, n = m + 1 := ⟨n - 1, by have := HN.out; simp only at this; omega⟩
   have HN1 : Aside0 ((s.size : Int) + 1 ≤ at_ + (m + 1)) := ⟨by have := HN.out; simp only at this; omega⟩
   obtain ⟨⟨b, y⟩, hy⟩ : ∃ z, oneR s at_ line l c = z := ⟨_, rfl⟩
   have HY := Aside0.mk hy
   have hgood := oneR_good HG.out hlt hy
   have hst := refLoop_step s m at_ line l c b y hlt hy
   rw [← hm, HL.out] at hst
   clear hm HN
   cases b with
   | true =>
    have HG2 := Aside0.mk (hgood.1 rfl)
    rw [if_pos rfl] at hst
    have HL2 := Aside0.mk hst.symm
    clear hgood hst hy
    go_wp2_with (go_at_call 42; (with_reducible refine (rc_one w.heap.size s at_ line l c w _ HS.out g4 g3 g2 g5 g0 hlt hs true y HY.out).mono ?_); rintro e w1 ⟨rfl, h1⟩; have H1 := Aside0.mk h1; clear h1; skip)
    go_roundw
    case rel => exact ⟨rfl, ⟨⟨y, m, H1.out, HG2.out.1, HL2.out, by have := HG2.out.2; have := HN1.out; omega⟩⟩⟩
    case measure =>
     have h2 := HG2.out.2
     have ha1 := HG2.out.1.a1
     rw [HM.out]
     obtain ⟨a', n', l', c'⟩ := y
     rw [refLeft_eq H1.out]
     simp only at h2 ha1
     omega
   | false =>
    have hy2 := hgood.2 rfl
    subst hy2
    rw [if_neg (by decide)] at hst
    rw [hst, if_neg (by simp)] at HE
    simp only at HE
    clear hst hgood hy HL
    by_cases k2 : at_ < 2000
    ·have b3 : decide (at_ < 2000) = true := decide_eq_true k2
     rw [if_pos (.inr k2)] at HE
     go_wp2_with (go_at_call 42; (with_reducible refine (rc_one w.heap.size s at_ line l c w _ HS.out g4 g3 g2 g5 g0 hlt hs false _ HY.out).mono ?_); rintro e w1 ⟨rfl, h1⟩; have H1 := Aside0.mk h1; clear h1; have q1 := H1.out.q1)
     go_ret3
     obtain ⟨rfl, rfl, rfl⟩ : [] = r1 ∧ [] = r2 ∧ _ = r3 := by simpa using HE.out
     exact ⟨_, _, rfl, Kd.R_nil _ _ _ _ _, Kd.R_nil _ _ _ _ _, by repeat (first | exact H1.out.below_ | apply pw_below_drewN | apply below_drew1)⟩
    ·have b3 : decide (at_ < 2000) = false := decide_eq_false k2
     rw [if_neg (by rintro (h | h); exact absurd h (by decide); exact k2 h)] at HE
     go_wp2_with (go_at_call 42; (with_reducible refine (rc_one w.heap.size s at_ line l c w _ HS.out g4 g3 g2 g5 g0 hlt hs false _ HY.out).mono ?_); rintro e w1 ⟨rfl, h1⟩; have H1 := Aside0.mk h1; clear h1; have q1 := H1.out.q1)
     go_ret3
     obtain ⟨rfl, rfl, rfl⟩ : [] = r1 ∧ [] = r2 ∧ _ = r3 := by simpa using HE.out
     exact ⟨_, _, rfl, Kd.R_nil _ _ _ _ _, Kd.R_nil _ _ _ _ _, by repeat (first | exact H1.out.below_ | apply pw_below_drewN | apply below_drew1)⟩
  ·have b1 : decide (at_ < (s.size : Int)) = false := decide_eq_false hlt
   have hst := refLoop_end s n ⟨at_, line, l, c⟩ hlt
   rw [HL.out] at hst
   rw [hst, if_pos rfl] at HE
   simp only at HE
   clear hst HL HM HN HG
   rw [if_pos (by decide)] at HE
   go_wp2
   go_ret3
   obtain ⟨rfl, rfl, rfl⟩ : [] = r1 ∧ [] = r2 ∧ _ = r3 := by simpa using HE.out
   exact ⟨_, _, rfl, Kd.R_nil _ _ _ _ _, Kd.R_nil _ _ _ _ _, by repeat (first | exact HS.out.below_ | apply pw_below_drewN | apply below_drew1)⟩
set_option maxHeartbeats 4000000 in
set_option maxRecDepth 100000 in
theorem ref_walk3 (k : Nat) (s : ByteArray) (w : World) (hs : s.size ≤ 100000) (F : Int) (hF : recensionref1_Fault.f k s = some F) (R : Bool × RSt) (hR : refLoop s (s.size + 2) ⟨0, 1, [], []⟩ = R) (r1 : List S29) (r2 : List S32) (r3 : Int) (hE : refEnd s F R = (r1, r2, r3)) (c1 : s.size > 2000) (c2 : ¬ F < 0) (c3 : F > 2000) :
  Calls Tryd.prog 25 #[.string s] w fun e w' => ∃ v0_ v1_ : Value, e = .returned (.tuple #[v0_, v1_, .int .i64 r3]) ∧ Kd.R k29 29 w' w.heap.size (fun _ => True) v0_ r1 ∧ Kd.R k32 32 w' w.heap.size (fun _ => True) v1_ r2 ∧ Below w.heap.size w w' := by
 unfold refEnd at hE
 rw [show refF s F = 2000 from by unfold refF; rw [if_pos ⟨c1, .inr c3⟩]] at hE
 have HF := Aside0.mk hF
 have HR := Aside0.mk hR
 have HE := Aside0.mk hE
 have HRC : Aside0 (∀ nd, Rc w ((w.alloc (.cells #[.string s, .int .i64 0, .int .i64 1, .slice none 0 0, .slice none 0 0] 62)).drewN nd) w.heap.size s ⟨0, 1, [], []⟩) := ⟨fun nd => Rc.drewN ⟨below_alloc (Below.refl _ _) _, Nat.le_refl _, .slice none 0 0, .slice none 0 0, by simpa using blk_new w (.cells #[.string s, .int .i64 0, .int .i64 1, .slice none 0 0, .slice none 0 0] 62), Kd.R_nil _ _ _ _ _, Kd.R_nil _ _ _ _ _⟩ nd⟩
 clear hF hR hE
 have a1 : decide ((2000 : Int) < (s.size : Int)) = true := decide_eq_true (by omega)
 have a2 : decide (F < 0) = false := decide_eq_false c2
 have a3 : decide (2000 < F) = true := decide_eq_true c3
 go_enter Tryd.func25, Tryd.ntmps25
 go_wp2_with (go_at_call 41; (with_reducible refine (recensionref1_Fault.calls k s F _ HF.out).mono ?_); rintro e w' ⟨rfl, ⟨nd, rfl⟩⟩)
 go_loopw [6] (fun f wr => f = .int .i64 2000 ∧ Aside0 (RefAt w wr s R)) (fun _ wr => refLeft s wr w.heap.size)
 case atStart => exact ⟨rfl, ⟨⟨⟨0, 1, [], []⟩, s.size + 2, HRC.out _, ⟨by simp, by simp, by simp, by simp, by simp, by simp⟩, HR.out, by simp only; omega⟩⟩⟩
 case round =>
  clear HR HRC
  obtain ⟨rfl, hrel⟩ := hrel
  obtain ⟨⟨at_, line, l, c⟩, n, hsc, hgd, hlp, hn⟩ := hrel.out
  clear hrel
  have HM := Aside0.mk (refLeft_eq hsc)
  have HS := Aside0.mk hsc
  have HG := Aside0.mk hgd
  have HL := Aside0.mk hlp
  have HN := Aside0.mk hn
  obtain ⟨g0, g1, g2, g3, g4, g5⟩ := hgd.out hs
  clear hsc hgd hlp hn
  have q1 := HS.out.q1
  by_cases hlt : at_ < (s.size : Int)
  ·have b1 : decide (at_ < (s.size : Int)) = true := decide_eq_true hlt
   obtain ⟨m, hm⟩ : ∃ m, n = m + 1 := ⟨n - 1, by have := HN.out; simp only at this; omega⟩
   have HN1 : Aside0 ((s.size : Int) + 1 ≤ at_ + (m + 1)) := ⟨by have := HN.out; simp only at this; omega⟩
   obtain ⟨⟨b, y⟩, hy⟩ : ∃ z, oneR s at_ line l c = z := ⟨_, rfl⟩
   have HY := Aside0.mk hy
   have hgood := oneR_good HG.out hlt hy
   have hst := refLoop_step s m at_ line l c b y hlt hy
   rw [← hm, HL.out] at hst
   clear hm HN
   cases b with
   | true =>
    have HG2 := Aside0.mk (hgood.1 rfl)
    rw [if_pos rfl] at hst
    have HL2 := Aside0.mk hst.symm
    clear hgood hst hy
    go_wp2_with (go_at_call 42; (with_reducible refine (rc_one w.heap.size s at_ line l c w _ HS.out g4 g3 g2 g5 g0 hlt hs true y HY.out).mono ?_); rintro e w1 ⟨rfl, h1⟩; have H1 := Aside0.mk h1; clear h1; skip)
    go_roundw
    case rel => exact ⟨rfl, ⟨⟨y, m, H1.out, HG2.out.1, HL2.out, by have := HG2.out.2; have := HN1.out; omega⟩⟩⟩
    case measure =>
     have h2 := HG2.out.2
     have ha1 := HG2.out.1.a1
     rw [HM.out]
     obtain ⟨a', n', l', c'⟩ := y
     rw [refLeft_eq H1.out]
     simp only at h2 ha1
     omega
   | false =>
    have hy2 := hgood.2 rfl
    subst hy2
    rw [if_neg (by decide)] at hst
    rw [hst, if_neg (by simp)] at HE
    simp only at HE
    clear hst hgood hy HL
    by_cases k2 : at_ < 2000
    ·have b3 : decide (at_ < 2000) = true := decide_eq_true k2
     rw [if_pos (.inr k2)] at HE
     go_wp2_with (go_at_call 42; (with_reducible refine (rc_one w.heap.size s at_ line l c w _ HS.out g4 g3 g2 g5 g0 hlt hs false _ HY.out).mono ?_); rintro e w1 ⟨rfl, h1⟩; have H1 := Aside0.mk h1; clear h1; have q1 := H1.out.q1)
     go_ret3
     obtain ⟨rfl, rfl, rfl⟩ : [] = r1 ∧ [] = r2 ∧ _ = r3 := by simpa using HE.out
     exact ⟨_, _, rfl, Kd.R_nil _ _ _ _ _, Kd.R_nil _ _ _ _ _, by repeat (first | exact H1.out.below_ | apply pw_below_drewN | apply below_drew1)⟩
    ·have b3 : decide (at_ < 2000) = false := decide_eq_false k2
     rw [if_neg (by rintro (h | h); exact absurd h (by decide); exact k2 h)] at HE
     go_wp2_with (go_at_call 42; (with_reducible refine (rc_one w.heap.size s at_ line l c w _ HS.out g4 g3 g2 g5 g0 hlt hs false _ HY.out).mono ?_); rintro e w1 ⟨rfl, h1⟩; have H1 := Aside0.mk h1; clear h1; have q1 := H1.out.q1)
     go_ret3
     obtain ⟨rfl, rfl, rfl⟩ : [] = r1 ∧ [] = r2 ∧ _ = r3 := by simpa using HE.out
     exact ⟨_, _, rfl, Kd.R_nil _ _ _ _ _, Kd.R_nil _ _ _ _ _, by repeat (first | exact H1.out.below_ | apply pw_below_drewN | apply below_drew1)⟩
  ·have b1 : decide (at_ < (s.size : Int)) = false := decide_eq_false hlt
   have hst := refLoop_end s n ⟨at_, line, l, c⟩ hlt
   rw [HL.out] at hst
   rw [hst, if_pos rfl] at HE
   simp only at HE
   clear hst HL HM HN HG
   rw [if_pos (by decide)] at HE
   go_wp2
   go_ret3
   obtain ⟨rfl, rfl, rfl⟩ : [] = r1 ∧ [] = r2 ∧ _ = r3 := by simpa using HE.out
   exact ⟨_, _, rfl, Kd.R_nil _ _ _ _ _, Kd.R_nil _ _ _ _ _, by repeat (first | exact HS.out.below_ | apply pw_below_drewN | apply below_drew1)⟩
set_option maxHeartbeats 4000000 in
set_option maxRecDepth 100000 in
theorem ref_walk4 (k : Nat) (s : ByteArray) (w : World) (hs : s.size ≤ 100000) (F : Int) (hF : recensionref1_Fault.f k s = some F) (R : Bool × RSt) (hR : refLoop s (s.size + 2) ⟨0, 1, [], []⟩ = R) (r1 : List S29) (r2 : List S32) (r3 : Int) (hE : refEnd s F R = (r1, r2, r3)) (c1 : s.size > 2000) (c2 : ¬ F < 0) (c3 : ¬ F > 2000) :
  Calls Tryd.prog 25 #[.string s] w fun e w' => ∃ v0_ v1_ : Value, e = .returned (.tuple #[v0_, v1_, .int .i64 r3]) ∧ Kd.R k29 29 w' w.heap.size (fun _ => True) v0_ r1 ∧ Kd.R k32 32 w' w.heap.size (fun _ => True) v1_ r2 ∧ Below w.heap.size w w' := by
 unfold refEnd at hE
 rw [show refF s F = F from by unfold refF; rw [if_neg (by rintro ⟨_, h | h⟩; exact c2 h; exact c3 h)]] at hE
 have HF := Aside0.mk hF
 have HR := Aside0.mk hR
 have HE := Aside0.mk hE
 have HRC : Aside0 (∀ nd, Rc w ((w.alloc (.cells #[.string s, .int .i64 0, .int .i64 1, .slice none 0 0, .slice none 0 0] 62)).drewN nd) w.heap.size s ⟨0, 1, [], []⟩) := ⟨fun nd => Rc.drewN ⟨below_alloc (Below.refl _ _) _, Nat.le_refl _, .slice none 0 0, .slice none 0 0, by simpa using blk_new w (.cells #[.string s, .int .i64 0, .int .i64 1, .slice none 0 0, .slice none 0 0] 62), Kd.R_nil _ _ _ _ _, Kd.R_nil _ _ _ _ _⟩ nd⟩
 clear hF hR hE
 have a1 : decide ((2000 : Int) < (s.size : Int)) = true := decide_eq_true (by omega)
 have a2 : decide (F < 0) = false := decide_eq_false c2
 have a3 : decide (2000 < F) = false := decide_eq_false c3
 go_enter Tryd.func25, Tryd.ntmps25
 go_wp2_with (go_at_call 41; (with_reducible refine (recensionref1_Fault.calls k s F _ HF.out).mono ?_); rintro e w' ⟨rfl, ⟨nd, rfl⟩⟩)
 go_loopw [6] (fun f wr => f = .int .i64 F ∧ Aside0 (RefAt w wr s R)) (fun _ wr => refLeft s wr w.heap.size)
 case atStart => exact ⟨rfl, ⟨⟨⟨0, 1, [], []⟩, s.size + 2, HRC.out _, ⟨by simp, by simp, by simp, by simp, by simp, by simp⟩, HR.out, by simp only; omega⟩⟩⟩
 case round =>
  clear HR HRC
  obtain ⟨rfl, hrel⟩ := hrel
  obtain ⟨⟨at_, line, l, c⟩, n, hsc, hgd, hlp, hn⟩ := hrel.out
  clear hrel
  have HM := Aside0.mk (refLeft_eq hsc)
  have HS := Aside0.mk hsc
  have HG := Aside0.mk hgd
  have HL := Aside0.mk hlp
  have HN := Aside0.mk hn
  obtain ⟨g0, g1, g2, g3, g4, g5⟩ := hgd.out hs
  clear hsc hgd hlp hn
  have q1 := HS.out.q1
  by_cases hlt : at_ < (s.size : Int)
  ·have b1 : decide (at_ < (s.size : Int)) = true := decide_eq_true hlt
   obtain ⟨m, hm⟩ : ∃ m, n = m + 1 := ⟨n - 1, by have := HN.out; simp only at this; omega⟩
   have HN1 : Aside0 ((s.size : Int) + 1 ≤ at_ + (m + 1)) := ⟨by have := HN.out; simp only at this; omega⟩
   obtain ⟨⟨b, y⟩, hy⟩ : ∃ z, oneR s at_ line l c = z := ⟨_, rfl⟩
   have HY := Aside0.mk hy
   have hgood := oneR_good HG.out hlt hy
   have hst := refLoop_step s m at_ line l c b y hlt hy
   rw [← hm, HL.out] at hst
   clear hm HN
   cases b with
   | true =>
    have HG2 := Aside0.mk (hgood.1 rfl)
    rw [if_pos rfl] at hst
    have HL2 := Aside0.mk hst.symm
    clear hgood hst hy
    go_wp2_with (go_at_call 42; (with_reducible refine (rc_one w.heap.size s at_ line l c w _ HS.out g4 g3 g2 g5 g0 hlt hs true y HY.out).mono ?_); rintro e w1 ⟨rfl, h1⟩; have H1 := Aside0.mk h1; clear h1; skip)
    go_roundw
    case rel => exact ⟨rfl, ⟨⟨y, m, H1.out, HG2.out.1, HL2.out, by have := HG2.out.2; have := HN1.out; omega⟩⟩⟩
    case measure =>
     have h2 := HG2.out.2
     have ha1 := HG2.out.1.a1
     rw [HM.out]
     obtain ⟨a', n', l', c'⟩ := y
     rw [refLeft_eq H1.out]
     simp only at h2 ha1
     omega
   | false =>
    have hy2 := hgood.2 rfl
    subst hy2
    rw [if_neg (by decide)] at hst
    rw [hst, if_neg (by simp)] at HE
    simp only at HE
    clear hst hgood hy HL
    have k1 := c2
    by_cases k2 : at_ < F
    ·have b3 : decide (at_ < F) = true := decide_eq_true k2
     rw [if_pos (.inr k2)] at HE
     go_wp2_with (go_at_call 42; (with_reducible refine (rc_one w.heap.size s at_ line l c w _ HS.out g4 g3 g2 g5 g0 hlt hs false _ HY.out).mono ?_); rintro e w1 ⟨rfl, h1⟩; have H1 := Aside0.mk h1; clear h1; have q1 := H1.out.q1)
     go_ret3
     obtain ⟨rfl, rfl, rfl⟩ : [] = r1 ∧ [] = r2 ∧ _ = r3 := by simpa using HE.out
     exact ⟨_, _, rfl, Kd.R_nil _ _ _ _ _, Kd.R_nil _ _ _ _ _, by repeat (first | exact H1.out.below_ | apply pw_below_drewN | apply below_drew1)⟩
    ·have b3 : decide (at_ < F) = false := decide_eq_false k2
     rw [if_neg (by rintro (h | h); exact absurd h (by omega); exact k2 h)] at HE
     go_wp2_with (go_at_call 42; (with_reducible refine (rc_one w.heap.size s at_ line l c w _ HS.out g4 g3 g2 g5 g0 hlt hs false _ HY.out).mono ?_); rintro e w1 ⟨rfl, h1⟩; have H1 := Aside0.mk h1; clear h1; have q1 := H1.out.q1)
     go_ret3
     obtain ⟨rfl, rfl, rfl⟩ : [] = r1 ∧ [] = r2 ∧ _ = r3 := by simpa using HE.out
     exact ⟨_, _, rfl, Kd.R_nil _ _ _ _ _, Kd.R_nil _ _ _ _ _, by repeat (first | exact H1.out.below_ | apply pw_below_drewN | apply below_drew1)⟩
  ·have b1 : decide (at_ < (s.size : Int)) = false := decide_eq_false hlt
   have hst := refLoop_end s n ⟨at_, line, l, c⟩ hlt
   rw [HL.out] at hst
   rw [hst, if_pos rfl] at HE
   simp only at HE
   clear hst HL HM HN HG
   have kf : F ≥ 0 := by omega
   have b4 : decide (0 ≤ F) = true := decide_eq_true kf
   rw [if_pos kf] at HE
   go_wp2
   go_ret3
   obtain ⟨rfl, rfl, rfl⟩ : [] = r1 ∧ [] = r2 ∧ _ = r3 := by simpa using HE.out
   exact ⟨_, _, rfl, Kd.R_nil _ _ _ _ _, Kd.R_nil _ _ _ _ _, by repeat (first | exact HS.out.below_ | apply pw_below_drewN | apply below_drew1)⟩
set_option maxHeartbeats 4000000 in
set_option maxRecDepth 100000 in
theorem ref_walk (k : Nat) (s : ByteArray) (w : World) (hs : s.size ≤ 100000) (F : Int) (hF : recensionref1_Fault.f k s = some F) (R : Bool × RSt) (hR : refLoop s (s.size + 2) ⟨0, 1, [], []⟩ = R) (r1 : List S29) (r2 : List S32) (r3 : Int) (hE : refEnd s F R = (r1, r2, r3)) :
  Calls Tryd.prog 25 #[.string s] w fun e w' => ∃ v0_ v1_ : Value, e = .returned (.tuple #[v0_, v1_, .int .i64 r3]) ∧ Kd.R k29 29 w' w.heap.size (fun _ => True) v0_ r1 ∧ Kd.R k32 32 w' w.heap.size (fun _ => True) v1_ r2 ∧ Below w.heap.size w w' := by
 by_cases h1 : s.size > 2000
 ·by_cases h2 : F < 0
  ·exact ref_walk2 k s w hs F hF R hR r1 r2 r3 hE h1 h2
  ·by_cases h3 : F > 2000
   ·exact ref_walk3 k s w hs F hF R hR r1 r2 r3 hE h1 h2 h3
   ·exact ref_walk4 k s w hs F hF R hR r1 r2 r3 hE h1 h2 h3
 ·exact ref_walk1 k s w hs F hF R hR r1 r2 r3 hE h1
theorem recensionref1_Scan.calls (k : Nat) (a0 : ByteArray) (r1 : List S29) (r2 : List S32) (r3 : Int) (w : World) (h : recensionref1_Scan.f k a0 = some (r1, r2, r3)) :
  Calls Tryd.prog 25 #[.string a0] w fun e w' => ∃ v0_ v1_ : Value, e = .returned (.tuple #[v0_, v1_, .int .i64 r3]) ∧ Kd.R k29 29 w' w.heap.size (fun _ => True) v0_ r1 ∧ Kd.R k32 32 w' w.heap.size (fun _ => True) v1_ r2 ∧ Below w.heap.size w w' := by
 unfold recensionref1_Scan.f at h
 by_cases hs : a0.size ≤ 100000
 ·rw [if_pos hs] at h
  obtain ⟨F, hF, h2⟩ := Option.bind_eq_some_iff.1 h
  exact ref_walk k a0 w hs F hF _ rfl r1 r2 r3 (Option.some.inj h2)
 ·rw [if_neg hs] at h; cases h

end Go.Proofs.YtohhnblaoihgbaaDoor.PScan
