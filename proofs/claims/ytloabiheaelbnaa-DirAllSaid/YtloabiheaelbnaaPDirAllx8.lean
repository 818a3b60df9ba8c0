-- Written by myprint.py (the prover's own turn of the printer); not trusted: Lean checks it.
import Derived.Test.YtloabiheaelbnaaPDirAllx0
import Derived.Test.YtloabiheaelbnaaPDirAllx2
import Derived.Test.YtloabiheaelbnaaPDirAllx3
import Derived.Test.YtloabiheaelbnaaPDirAllx4
import Derived.Test.YtloabiheaelbnaaPDirAllx5
import Derived.Test.YtloabiheaelbnaaPDirAllx6
import Derived.Test.YtloabiheaelbnaaPDirAllx7
namespace Go.Proofs.Ytloabiheaelbnaa.PDirAll
open Go.RowKit Go.Proofs.YtloabiheaelbnaaW.PrintWords Go.Proofs.YtloabiheaelbnaaW.PrintLast Go.Proofs.YtloabiheaelbnaaW.PrintMore
attribute [local go_sem] str_leq op_leq op_gtr op_geq max2_int min2_int max_two min_two max_three min_three max_four min_four   -- for this text's walks alone
set_option linter.unusedVariables false
set_option linter.unusedSimpArgs false

/-! ### recensionlaw23_DirAll: function 3 -/
/-- The last entry of that name; a: none so far. -/
def atL (s : ByteArray) : List S32 → Int → Int → Int
 | [], _, a => a
 | e :: l, i, a => atL s l (i + 1) (if e.f0.toList = s.toList then i else a)
theorem atL_next (s : ByteArray) (l : List S32) (x a : Int) (h0 : 0 ≤ x) (h1 : x < l.length) : atL s (l.drop x.toNat) x a = atL s (l.drop (x + 1).toNat) (x + 1) (if (rd_T32 l x).f0.toList = s.toList then x else a) := by
 have hl : x.toNat < l.length := by omega
 rw [List.drop_eq_getElem_cons hl, show (x + 1).toNat = x.toNat + 1 by omega]
 have e1 : l[x.toNat] = rd_T32 l x := by unfold rd_T32; simp [hl]
 rw [atL, e1]
theorem atL_end (s : ByteArray) (l : List S32) (a : Int) : atL s (l.drop (l.length : Int).toNat) l.length a = a := by
 rw [Int.toNat_natCast, List.drop_length]; rfl
/-- The two lists and the bytes, as they are read. -/
def Da (w W : World) (Al : Option Addr) (cl : Nat) (l : List S32) (Am : Option Addr) (cm : Nat) (m : List S32) : Prop := Below w.heap.size w W ∧ Kd.C k32 W Al l.length l ∧ l.length ≤ cl ∧ Kd.C k32 W Am m.length m ∧ m.length ≤ cm
theorem Da.of_below {w W W1 : World} {Al : Option Addr} {cl : Nat} {l : List S32} {Am : Option Addr} {cm : Nat} {m : List S32} (h : Da w W Al cl l Am cm m) (hb : Below W.heap.size W W1) : Da w W1 Al cl l Am cm m :=
 ⟨below_step h.1 hb, Kd.C_below h.2.1 hb, h.2.2.1, Kd.C_below h.2.2.2.1 hb, h.2.2.2.2⟩
theorem Da.drewN {w W : World} {Al : Option Addr} {cl : Nat} {l : List S32} {Am : Option Addr} {cm : Nat} {m : List S32} (h : Da w W Al cl l Am cm m) (n : Nat) : Da w (W.drewN n) Al cl l Am cm m := h.of_below (pw_below_drewN (Below.refl _ _) n)
theorem Da.drew {w W : World} {Al : Option Addr} {cl : Nat} {l : List S32} {Am : Option Addr} {cm : Nat} {m : List S32} (h : Da w W Al cl l Am cm m) : Da w W.drew Al cl l Am cm m := h.of_below (below_drew1 (Below.refl _ _))
/-- The same, the bytes and the list that came of them. -/
def Db (w W : World) (Al : Option Addr) (cl : Nat) (l : List S32) (Am : Option Addr) (cm : Nat) (m : List S32) (Ab : Option Addr) (cb : Nat) (b : List Int) (Ax : Option Addr) (cx : Nat) : Prop := Da w W Al cl l Am cm m ∧ Kd.C (Kd.int .u8) W Ab b.length b ∧ b.length ≤ cb ∧ Kd.C k32 W Ax l.length l ∧ l.length ≤ cx
section
variable {w W W1 : World} {Al : Option Addr} {cl : Nat} {l : List S32} {Am : Option Addr} {cm : Nat} {m : List S32} {Ab : Option Addr} {cb : Nat} {b : List Int} {Ax : Option Addr} {cx : Nat}
theorem Db.of_below (h : Db w W Al cl l Am cm m Ab cb b Ax cx) (hb : Below W.heap.size W W1) : Db w W1 Al cl l Am cm m Ab cb b Ax cx :=
 ⟨h.1.of_below hb, Kd.C_below h.2.1 hb, h.2.2.1, Kd.C_below h.2.2.2.1 hb, h.2.2.2.2⟩
theorem Db.drewN (h : Db w W Al cl l Am cm m Ab cb b Ax cx) (n : Nat) : Db w (W.drewN n) Al cl l Am cm m Ab cb b Ax cx := h.of_below (pw_below_drewN (Below.refl _ _) n)
theorem Db.drew (h : Db w W Al cl l Am cm m Ab cb b Ax cx) : Db w W.drew Al cl l Am cm m Ab cb b Ax cx := h.of_below (below_drew1 (Below.refl _ _))
theorem Db.conv (h : Db w W Al cl l Am cm m Ab cb b Ax cx) : (convert 26 9 (.slice Ab b.length cb)).run Try.prog W = .ok (.string (strOfNums b)) W := Kd.C_string (P := Try.prog) (A := Ab) (c := cb) Try.underlying26 Try.underlying5 Try.underlying9 h.2.1
theorem Db.cl_ (h : Db w W Al cl l Am cm m Ab cb b Ax cx) : Kd.C k32 W Al l.length l := h.1.2.1
theorem Db.nl_ (h : Db w W Al cl l Am cm m Ab cb b Ax cx) : l.length ≤ cl := h.1.2.2.1
theorem Db.cm_ (h : Db w W Al cl l Am cm m Ab cb b Ax cx) : Kd.C k32 W Am m.length m := h.1.2.2.2.1
theorem Db.nm_ (h : Db w W Al cl l Am cm m Ab cb b Ax cx) : m.length ≤ cm := h.1.2.2.2.2
theorem Db.cx_ (h : Db w W Al cl l Am cm m Ab cb b Ax cx) : Kd.C k32 W Ax l.length l := h.2.2.2.1
theorem Db.nx_ (h : Db w W Al cl l Am cm m Ab cb b Ax cx) : l.length ≤ cx := h.2.2.2.2
theorem Db.below_ (h : Db w W Al cl l Am cm m Ab cb b Ax cx) : Below w.heap.size w W := h.1.1
end
set_option maxHeartbeats 4000000 in
set_option maxRecDepth 100000 in
theorem da_no (k : Nat) (A0 : Option Addr) (c0 : Nat) (l0 : List S32) (A1 : Option Addr) (c1 : Nat) (m0 : List S32) (a s : ByteArray) (l m : List S32) (w : World) (hr0 : Kd.C k32 w A0 l0.length l0) (hc0 : l0.length ≤ c0) (hr1 : Kd.C k32 w A1 m0.length m0) (hc1 : m0.length ≤ c1) (hbeg : recensionlaw23_begun.f k = some true) (h1 : recensionlaw23_Cut.f k l0 = some l) (h2 : recensionlaw23_Cut.f k m0 = some m) (h3 : recensionlaw3_Cut.f a 22 = some s) (h4 : dir_Encode.f k l = some []) (h5 : dir_May.f k l = some false) (h6 : recensionlaw23_may.f k l = some false) :
  Calls Try.prog 3 #[.slice A0 l0.length c0, .slice A1 m0.length c1, .string a] w fun e w' => e = .returned (.bool true) ∧ Below w.heap.size w w' := by
 have HR0 := Lib.hid hr0
 have HC0 := Lib.hid hc0
 have HR1 := Lib.hid hr1
 have HC1 := Lib.hid hc1
 have B := Lib.hid hbeg
 have H1 := Lib.hid h1
 have H2 := Lib.hid h2
 have H3 := Lib.hid h3
 have H4 := Lib.hid h4
 have H5 := Lib.hid h5
 have H6 := Lib.hid h6
 clear hr0 hc0 hr1 hc1 hbeg h1 h2 h3 h4 h5 h6
 go_enter Try.func3, Try.ntmps3
 go_wp2_with fail
 refine (recensionlaw23_begun.calls k true _ B.out).mono ?_
 rintro e w1 ⟨rfl, hb1⟩
 have HB1 := Lib.hid hb1
 clear hb1
 go_wp2_with fail
 refine (recensionlaw23_Cut.calls k A0 c0 l0 l _ (Kd.C_below HR0.out HB1.out) HC0.out H1.out).mono ?_
 rintro e w2 ⟨v1, rfl, ho1, hb2⟩
 obtain ⟨Al, cl, rfl⟩ := Kd.R_slice ho1
 have HL := Lib.hid (Kd.R_reads' ho1).2
 have HB2 := Lib.hid (below_step HB1.out hb2)
 clear ho1 hb2
 go_wp2_with fail
 refine (recensionlaw23_Cut.calls k A1 c1 m0 m _ (Kd.C_below HR1.out HB2.out) HC1.out H2.out).mono ?_
 rintro e w3 ⟨v2, rfl, ho2, hb3⟩
 obtain ⟨Am, cm, rfl⟩ := Kd.R_slice ho2
 have HD := Lib.hid (show Da w w3 Al cl l Am cm m from ⟨below_step HB2.out hb3, Kd.C_below HL.out.2 hb3, HL.out.1, (Kd.R_reads' ho2).2.2, (Kd.R_reads' ho2).2.1⟩)
 clear ho2 hb3 HL HR0 HR1 HB1 HB2
 go_wp2_with fail
 refine (recensionlaw3_Cut.calls a 22 s _ H3.out).mono ?_
 rintro e w4 ⟨rfl, ⟨n4, rfl⟩⟩
 go_wp2_with fail
 refine (dir_Encode.calls k Al cl l [] _ (HD.out.drewN n4).2.1 HD.out.2.2.1 H4.out).mono ?_
 rintro e w5 ⟨v5, rfl, ho5, hb5⟩
 obtain ⟨Ab, cb, rfl⟩ := Kd.R_slice ho5
 have HD5 := Lib.hid ((HD.out.drewN n4).of_below hb5)
 clear ho5 hb5 HD
 go_wp2_with fail
 refine (dir_May.calls k Al cl l false _ HD5.out.2.1 HD5.out.2.2.1 H5.out).mono ?_
 rintro e w6 ⟨rfl, hb6⟩
 have HD6 := Lib.hid (HD5.out.of_below hb6)
 clear hb6 HD5
 go_wp2_with fail
 refine (recensionlaw23_may.calls k Al cl l false _ HD6.out.2.1 HD6.out.2.2.1 H6.out).mono ?_
 rintro e w7 ⟨rfl, hb7⟩
 have HD7 := Lib.hid (HD6.out.of_below hb7)
 clear hb7 HD6
 go_wp2_with fail
 refine (recensionlaw23_may.calls k Al cl l false _ HD7.out.2.1 HD7.out.2.2.1 H6.out).mono ?_
 rintro e w8 ⟨rfl, hb8⟩
 have HD8 := Lib.hid (HD7.out.of_below hb8)
 clear hb8 HD7
 go_wp2_with fail
 refine (recensionlaw23_may.calls k Al cl l false _ HD8.out.2.1 HD8.out.2.2.1 H6.out).mono ?_
 rintro e w9 ⟨rfl, hb9⟩
 have HD9 := Lib.hid (HD8.out.of_below hb9)
 clear hb9 HD8
 go_wp2_with fail
 go_ret
 exact ⟨rfl, HD9.out.1⟩
set_option maxHeartbeats 4000000 in
set_option maxRecDepth 100000 in
theorem da_nom (k : Nat) (A0 : Option Addr) (c0 : Nat) (l0 : List S32) (A1 : Option Addr) (c1 : Nat) (m0 : List S32) (a s : ByteArray) (l m : List S32) (w : World) (hr0 : Kd.C k32 w A0 l0.length l0) (hc0 : l0.length ≤ c0) (hr1 : Kd.C k32 w A1 m0.length m0) (hc1 : m0.length ≤ c1) (hbeg : recensionlaw23_begun.f k = some true) (h1 : recensionlaw23_Cut.f k l0 = some l) (h2 : recensionlaw23_Cut.f k m0 = some m) (h3 : recensionlaw3_Cut.f a 22 = some s) (b : List Int) (at_ : Int) (h4 : dir_Encode.f k l = some b) (h5 : dir_May.f k l = some true) (h6 : recensionlaw23_may.f k l = some true) (h7 : dir_Decode.f k b = some (l, 0)) (h8 : recensionlaw23_bytes.f k l = some b) (h9 : recensionlaw23_eq.f k l l = some true) (h10 : dir_Find.f l s = some at_) (hat : atL s l 0 (-1) = at_) (hlen : l.length ≤ 100) (h11 : recensionlaw23_may.f k m = some false) :
  Calls Try.prog 3 #[.slice A0 l0.length c0, .slice A1 m0.length c1, .string a] w fun e w' => e = .returned (.bool true) ∧ Below w.heap.size w w' := by
 have HR0 := Lib.hid hr0
 have HC0 := Lib.hid hc0
 have HR1 := Lib.hid hr1
 have HC1 := Lib.hid hc1
 have B := Lib.hid hbeg
 have H1 := Lib.hid h1
 have H2 := Lib.hid h2
 have H3 := Lib.hid h3
 have H4 := Lib.hid h4
 have H5 := Lib.hid h5
 have H6 := Lib.hid h6
 have H7 := Lib.hid h7
 have H8 := Lib.hid h8
 have H9 := Lib.hid h9
 have H10 := Lib.hid h10
 have H11 := Lib.hid h11
 have HAT := Lib.hid hat
 clear hr0 hc0 hr1 hc1 hbeg h1 h2 h3 h4 h5 h6 h7 h8 h9 h10 h11 hat
 go_enter Try.func3, Try.ntmps3
 go_wp2_with fail
 refine (recensionlaw23_begun.calls k true _ B.out).mono ?_
 rintro e w1 ⟨rfl, hb1⟩
 have HB1 := Lib.hid hb1
 clear hb1
 go_wp2_with fail
 refine (recensionlaw23_Cut.calls k A0 c0 l0 l _ (Kd.C_below HR0.out HB1.out) HC0.out H1.out).mono ?_
 rintro e w2 ⟨v1, rfl, ho1, hb2⟩
 obtain ⟨Al, cl, rfl⟩ := Kd.R_slice ho1
 have HL := Lib.hid (Kd.R_reads' ho1).2
 have HB2 := Lib.hid (below_step HB1.out hb2)
 clear ho1 hb2
 go_wp2_with fail
 refine (recensionlaw23_Cut.calls k A1 c1 m0 m _ (Kd.C_below HR1.out HB2.out) HC1.out H2.out).mono ?_
 rintro e w3 ⟨v2, rfl, ho2, hb3⟩
 obtain ⟨Am, cm, rfl⟩ := Kd.R_slice ho2
 have HD := Lib.hid (show Da w w3 Al cl l Am cm m from ⟨below_step HB2.out hb3, Kd.C_below HL.out.2 hb3, HL.out.1, (Kd.R_reads' ho2).2.2, (Kd.R_reads' ho2).2.1⟩)
 clear ho2 hb3 HL HR0 HR1 HB1 HB2
 go_wp2_with fail
 refine (recensionlaw3_Cut.calls a 22 s _ H3.out).mono ?_
 rintro e w4 ⟨rfl, ⟨n4, rfl⟩⟩
 go_wp2_with fail
 refine (dir_Encode.calls k Al cl l b _ (HD.out.drewN n4).2.1 HD.out.2.2.1 H4.out).mono ?_
 rintro e w5 ⟨v5, rfl, ho5, hb5⟩
 obtain ⟨Ab, cb, rfl⟩ := Kd.R_slice ho5
 have KB5 := Lib.hid (Kd.R_reads' ho5).2
 have HD5 := Lib.hid ((HD.out.drewN n4).of_below hb5)
 clear ho5 hb5 HD
 go_wp2_with fail
 refine (dir_May.calls k Al cl l true _ HD5.out.2.1 HD5.out.2.2.1 H5.out).mono ?_
 rintro e w6 ⟨rfl, hb6⟩
 have HD6 := Lib.hid (HD5.out.of_below hb6)
 have KB6 := Lib.hid (Kd.C_below KB5.out.2 hb6)
 clear hb6 HD5
 go_wp2_with fail
 refine (recensionlaw23_may.calls k Al cl l true _ HD6.out.2.1 HD6.out.2.2.1 H6.out).mono ?_
 rintro e w7 ⟨rfl, hb7⟩
 have HD7 := Lib.hid (HD6.out.of_below hb7)
 have KB7 := Lib.hid (Kd.C_below KB6.out hb7)
 clear hb7 HD6 KB6
 go_wp2_with fail
 refine (recensionlaw23_may.calls k Al cl l true _ HD7.out.2.1 HD7.out.2.2.1 H6.out).mono ?_
 rintro e w8 ⟨rfl, hb8⟩
 have HD8 := Lib.hid (HD7.out.of_below hb8)
 have KB8 := Lib.hid (Kd.C_below KB7.out hb8)
 clear hb8 HD7 KB7
 go_wp2_with fail
 refine (recensionlaw23_may.calls k Al cl l true _ HD8.out.2.1 HD8.out.2.2.1 H6.out).mono ?_
 rintro e w9 ⟨rfl, hb9⟩
 have HD9 := Lib.hid (HD8.out.of_below hb9)
 have KB9 := Lib.hid (Kd.C_below KB8.out hb9)
 clear hb9 HD8 KB8
 go_wp2_with fail
 go_loopw [9, 10] (fun u9 u10 wr => ∃ (x z : Int), u10 = .int .i64 x ∧ u9 = .int .i64 z ∧ 0 ≤ x ∧ x ≤ l.length ∧ Aside0 (wr = w9) ∧ Aside0 (atL s (l.drop x.toNat) x z = at_)) (fun _ u10 _ => (l.length - (intOf u10).toNat))
 case atStart => exact ⟨0, -1, rfl, rfl, Int.le_refl _, by omega, ⟨rfl⟩, ⟨HAT.out⟩⟩
 case round =>
  obtain ⟨x, z, rfl, rfl, hx0, hxl, hw, HG⟩ := hrel
  obtain rfl := hw.out
  clear hw
  by_cases hlt : x < (l.length : Int)
  ·have b1 : decide (x < (l.length : Int)) = true := decide_eq_true hlt
   obtain ⟨ad, e0, q0, q1, q2, q3⟩ := at_T32 HD9.out.2.1 x hx0 hlt
   subst e0
   have hgo := atL_next s l x z hx0 hlt
   rw [HG.out] at hgo
   obtain ⟨ent, hent⟩ : ∃ ent, rd_T32 l x = ent := ⟨_, rfl⟩
   rw [hent] at q0 q1 q2 q3 hgo
   have HGO := Lib.hid hgo.symm
   have e12 : IntKind.i64.wrap (x + 1) = x + 1 := IntWalk.i64_in _ (by omega)
   clear hgo hent HG
   by_cases hq0 : ent.f0.toList = s.toList
   all_goals
    have HQ0 := Lib.hid hq0
    first | have t1 : (ent.f0.toList == s.toList) = true := beq_iff_eq.2 hq0 | have t1 : (ent.f0.toList == s.toList) = false := beq_eq_false_iff_ne.2 hq0
    clear hq0
    go_wp2_with fail
    go_roundw
    case rel => exact ⟨x + 1, _, rfl, rfl, by omega, by omega, ⟨by first | trivial | rfl⟩, ⟨by have := HGO.out; first | rwa [if_pos HQ0.out] at this | rwa [if_neg HQ0.out] at this⟩⟩
    case measure => simp [intOf]; omega
  ·have b1 : decide (x < (l.length : Int)) = false := decide_eq_false hlt
   have hxe : x = (l.length : Int) := by omega
   have hz : z = at_ := by
    have e := HG.out
    rw [hxe, atL_end] at e
    exact e
   subst hz
   clear HG
   go_wp2_with fail
   refine (dir_Decode.calls k Ab cb b l 0 _ KB9.out KB5.out.1 H7.out).mono ?_
   rintro e w10 ⟨v10, rfl, ho10, hb10⟩
   obtain ⟨Ax, cx, rfl⟩ := Kd.R_slice ho10
   have HX := Lib.hid (show Db w w10 Al cl l Am cm m Ab cb b Ax cx from ⟨HD9.out.of_below hb10, Kd.C_below KB9.out hb10, KB5.out.1, (Kd.R_reads' ho10).2.2, (Kd.R_reads' ho10).2.1⟩)
   clear ho10 hb10 HD9 KB9
   have D0 := Lib.hid HX.out.drew
   go_wp2_with fail
   refine start_ (n := 40) (S := fun w' => (convert 26 9 (.slice Ab b.length cb)).run Try.prog w' = .ok (.string (strOfNums b)) w') (ds := []) #[false, false, false, false, false, false, false, false, false, false, false, false, false, false, false, false, false, false, false, false, false, false, false, false, false, false, false, false, false, false, false, false, false, false, false, false, false, false, false, false] (by kernel_rfl) rfl rfl (D0.out.conv) (fun hHeld => ?_)
   refine pure_ (i := 0) (N := some 61) (v := ?_) (a' := ?_) #[true, false, false, false, false, false, false, false, false, false, false, false, false, false, false, false, false, false, false, false, false, false, false, false, false, false, false, false, false, false, false, false, false, false, false, false, false, false, false, false] rfl rfl (by kernel_rfl) (fun _ _ _ h => h) (Or.inl ⟨by rfl, ?_⟩) ?_ ?_
   rotate_left
   ·intro w'
    go_simp
    with_reducible rfl
   rotate_left
   ·simp only [Act.put, List.setIfInBounds_toArray, List.set_cons_zero, List.set_cons_succ, i64_w, i32_w]
    rfl
   refine pure_ (i := 2) (N := some 63) (v := ?_) (a' := ?_) #[true, false, true, false, false, false, false, false, false, false, false, false, false, false, false, false, false, false, false, false, false, false, false, false, false, false, false, false, false, false, false, false, false, false, false, false, false, false, false, false] rfl rfl (by kernel_rfl) (fun _ _ _ h => h) (Or.inl ⟨by rfl, ?_⟩) ?_ ?_
   rotate_left
   ·intro w'
    go_simp
    with_reducible rfl
   rotate_left
   ·simp only [Act.put, List.setIfInBounds_toArray, List.set_cons_zero, List.set_cons_succ, i64_w, i32_w]
    rfl
   refine take_ (i := 1) (N := some 62) (v := ?_) (a' := ?_) #[true, true, true, false, false, false, false, false, false, false, false, false, false, false, false, false, false, false, false, false, false, false, false, false, false, false, false, false, false, false, false, false, false, false, false, false, false, false, false, false] rfl rfl (by kernel_rfl) (fun _ _ _ h => h) (Or.inl ⟨by rfl, ?_⟩) hHeld ?_ ?_
   rotate_left
   ·intro w' s0
    go_simp
    with_reducible rfl
   rotate_left
   ·simp only [Act.put, List.setIfInBounds_toArray, List.set_cons_zero, List.set_cons_succ, i64_w, i32_w]
    rfl
   refine one_ (i := 3) (N := some 64) #[true, true, true, true, false, false, false, false, false, false, false, false, false, false, false, false, false, false, false, false, false, false, false, false, false, false, false, false, false, false, false, false, false, false, false, false, false, false, false, false] rfl rfl (by kernel_rfl) (by decide) (fun K hK => ?_)
   refine goes_ Try.func14 (by kernel_rfl) rfl #[.slice Al l.length cl] (by rfl) rfl rfl (by simp only [List.map_toArray, List.map_cons, List.map_nil]; rfl) ?_
   with_reducible refine (recensionlaw23_bytes.calls k Al cl l b _ D0.out.cl_ D0.out.nl_ H8.out).mono ?_
   rintro e w1_ ⟨v1_, rfl, ho1, hb⟩
   obtain ⟨Ac, cc, rfl⟩ := Kd.R_slice ho1
   have hcv := Kd.C_string (P := Try.prog) (A := Ac) (c := cc) Try.underlying26 Try.underlying5 Try.underlying9 (Kd.R_reads' ho1).2.2
   have D1 := Lib.hid (D0.out.of_below hb)
   clear hb ho1 D0
   refine ⟨_, rfl, ?_⟩
   refine hK.out _ _ (D1.out.conv) (fun hHeld => ?_)
   clear hK K
   refine norm_ (a' := ?_) ?_ ?_
   rotate_left
   ·show Act.put _ (some 64) _ = _
    simp only [Act.put, List.setIfInBounds_toArray, List.set_cons_zero, List.set_cons_succ, i64_w, i32_w]
    rfl
   refine one_ (i := 4) (N := some 65) #[true, true, true, true, true, false, false, false, false, false, false, false, false, false, false, false, false, false, false, false, false, false, false, false, false, false, false, false, false, false, false, false, false, false, false, false, false, false, false, false] rfl rfl (by kernel_rfl) (by decide) (fun K hK => ?_)
   refine value_ (w1 := ?_) (v := ?_) (by rfl) rfl ?_ ?_
   rotate_left 2
   ·go_simp
    constructor
    ·rfl
    ·rfl
   refine hK.out _ _ (D1.out.conv) (fun hHeld => ?_)
   clear hK K
   refine norm_ (a' := ?_) ?_ ?_
   rotate_left
   ·show Act.put _ (some 65) _ = _
    simp only [Act.put, List.setIfInBounds_toArray, List.set_cons_zero, List.set_cons_succ, i64_w, i32_w]
    rfl
   refine pure_ (i := 5) (N := some 66) (v := ?_) (a' := ?_) #[true, true, true, true, true, true, false, false, false, false, false, false, false, false, false, false, false, false, false, false, false, false, false, false, false, false, false, false, false, false, false, false, false, false, false, false, false, false, false, false] rfl rfl (by kernel_rfl) (fun _ _ _ h => h) (Or.inl ⟨by rfl, ?_⟩) ?_ ?_
   rotate_left
   ·intro w'
    go_simp
    with_reducible rfl
   rotate_left
   ·simp only [Act.put, List.setIfInBounds_toArray, List.set_cons_zero, List.set_cons_succ, i64_w, i32_w]
    rfl
   refine pure_ (i := 6) (N := some 67) (v := ?_) (a' := ?_) #[true, true, true, true, true, true, true, false, false, false, false, false, false, false, false, false, false, false, false, false, false, false, false, false, false, false, false, false, false, false, false, false, false, false, false, false, false, false, false, false] rfl rfl (by kernel_rfl) (fun _ _ _ h => h) (Or.inl ⟨by rfl, ?_⟩) ?_ ?_
   rotate_left
   ·intro w'
    go_simp
    with_reducible rfl
   rotate_left
   ·simp only [Act.put, List.setIfInBounds_toArray, List.set_cons_zero, List.set_cons_succ, i64_w, i32_w]
    rfl
   refine pure_ (i := 7) (N := some 68) (v := ?_) (a' := ?_) #[true, true, true, true, true, true, true, true, false, false, false, false, false, false, false, false, false, false, false, false, false, false, false, false, false, false, false, false, false, false, false, false, false, false, false, false, false, false, false, false] rfl rfl (by kernel_rfl) (fun _ _ _ h => h) (Or.inl ⟨by rfl, ?_⟩) ?_ ?_
   rotate_left
   ·intro w'
    go_simp
    with_reducible rfl
   rotate_left
   ·simp only [Act.put, List.setIfInBounds_toArray, List.set_cons_zero, List.set_cons_succ, i64_w, i32_w]
    rfl
   refine pure_ (i := 8) (N := some 69) (v := ?_) (a' := ?_) #[true, true, true, true, true, true, true, true, true, false, false, false, false, false, false, false, false, false, false, false, false, false, false, false, false, false, false, false, false, false, false, false, false, false, false, false, false, false, false, false] rfl rfl (by kernel_rfl) (fun _ _ _ h => h) (Or.inl ⟨by rfl, ?_⟩) ?_ ?_
   rotate_left
   ·intro w'
    go_simp
    with_reducible rfl
   rotate_left
   ·simp only [Act.put, List.setIfInBounds_toArray, List.set_cons_zero, List.set_cons_succ, i64_w, i32_w]
    rfl
   refine pure_ (i := 9) (N := some 70) (v := ?_) (a' := ?_) #[true, true, true, true, true, true, true, true, true, true, false, false, false, false, false, false, false, false, false, false, false, false, false, false, false, false, false, false, false, false, false, false, false, false, false, false, false, false, false, false] rfl rfl (by kernel_rfl) (fun _ _ _ h => h) (Or.inl ⟨by rfl, ?_⟩) ?_ ?_
   rotate_left
   ·intro w'
    go_simp
    with_reducible rfl
   rotate_left
   ·simp only [Act.put, List.setIfInBounds_toArray, List.set_cons_zero, List.set_cons_succ, i64_w, i32_w]
    rfl
   refine pure_ (i := 10) (N := some 71) (v := ?_) (a' := ?_) #[true, true, true, true, true, true, true, true, true, true, true, false, false, false, false, false, false, false, false, false, false, false, false, false, false, false, false, false, false, false, false, false, false, false, false, false, false, false, false, false] rfl rfl (by kernel_rfl) (fun _ _ _ h => h) (Or.inl ⟨by rfl, ?_⟩) ?_ ?_
   rotate_left
   ·intro w'
    go_simp
    with_reducible rfl
   rotate_left
   ·simp only [Act.put, List.setIfInBounds_toArray, List.set_cons_zero, List.set_cons_succ, i64_w, i32_w]
    rfl
   refine pure_ (i := 11) (N := some 72) (v := ?_) (a' := ?_) #[true, true, true, true, true, true, true, true, true, true, true, true, false, false, false, false, false, false, false, false, false, false, false, false, false, false, false, false, false, false, false, false, false, false, false, false, false, false, false, false] rfl rfl (by kernel_rfl) (fun _ _ _ h => h) (Or.inl ⟨by rfl, ?_⟩) ?_ ?_
   rotate_left
   ·intro w'
    go_simp
    with_reducible rfl
   rotate_left
   ·simp only [Act.put, List.setIfInBounds_toArray, List.set_cons_zero, List.set_cons_succ, i64_w, i32_w]
    rfl
   refine pure_ (i := 12) (N := some 73) (v := ?_) (a' := ?_) #[true, true, true, true, true, true, true, true, true, true, true, true, true, false, false, false, false, false, false, false, false, false, false, false, false, false, false, false, false, false, false, false, false, false, false, false, false, false, false, false] rfl rfl (by kernel_rfl) (fun _ _ _ h => h) (Or.inl ⟨by rfl, ?_⟩) ?_ ?_
   rotate_left
   ·intro w'
    go_simp
    with_reducible rfl
   rotate_left
   ·simp only [Act.put, List.setIfInBounds_toArray, List.set_cons_zero, List.set_cons_succ, i64_w, i32_w]
    rfl
   refine one_ (i := 13) (N := some 74) #[true, true, true, true, true, true, true, true, true, true, true, true, true, true, false, false, false, false, false, false, false, false, false, false, false, false, false, false, false, false, false, false, false, false, false, false, false, false, false, false] rfl rfl (by kernel_rfl) (by decide) (fun K hK => ?_)
   clear hcv
   refine goes_ Try.func15 (by kernel_rfl) rfl #[.slice Ax l.length cx, .slice Al l.length cl] (by rfl) rfl rfl (by simp only [List.map_toArray, List.map_cons, List.map_nil]; rfl) ?_
   with_reducible refine (recensionlaw23_eq.calls k Ax cx l Al cl l true _ D1.out.cx_ D1.out.nx_ D1.out.cl_ D1.out.nl_ H9.out).mono ?_
   rintro e w2_ ⟨rfl, ⟨n2, rfl⟩⟩
   have D2 := Lib.hid (D1.out.drewN n2)
   clear D1
   refine ⟨_, rfl, ?_⟩
   refine hK.out _ _ (D2.out.conv) (fun hHeld => ?_)
   clear hK K
   refine norm_ (a' := ?_) ?_ ?_
   rotate_left
   ·show Act.put _ (some 74) _ = _
    simp only [Act.put, List.setIfInBounds_toArray, List.set_cons_zero, List.set_cons_succ, i64_w, i32_w]
    rfl
   refine pure_ (i := 14) (N := some 75) (v := ?_) (a' := ?_) #[true, true, true, true, true, true, true, true, true, true, true, true, true, true, true, false, false, false, false, false, false, false, false, false, false, false, false, false, false, false, false, false, false, false, false, false, false, false, false, false] rfl rfl (by kernel_rfl) (fun _ _ _ h => h) (Or.inl ⟨by rfl, ?_⟩) ?_ ?_
   rotate_left
   ·intro w'
    go_simp
    with_reducible rfl
   rotate_left
   ·simp only [Act.put, List.setIfInBounds_toArray, List.set_cons_zero, List.set_cons_succ, i64_w, i32_w]
    rfl
   refine pure_ (i := 15) (N := some 76) (v := ?_) (a' := ?_) #[true, true, true, true, true, true, true, true, true, true, true, true, true, true, true, true, false, false, false, false, false, false, false, false, false, false, false, false, false, false, false, false, false, false, false, false, false, false, false, false] rfl rfl (by kernel_rfl) (fun _ _ _ h => h) (Or.inl ⟨by rfl, ?_⟩) ?_ ?_
   rotate_left
   ·intro w'
    go_simp
    with_reducible rfl
   rotate_left
   ·simp only [Act.put, List.setIfInBounds_toArray, List.set_cons_zero, List.set_cons_succ, i64_w, i32_w]
    rfl
   refine pure_ (i := 16) (N := some 77) (v := ?_) (a' := ?_) #[true, true, true, true, true, true, true, true, true, true, true, true, true, true, true, true, true, false, false, false, false, false, false, false, false, false, false, false, false, false, false, false, false, false, false, false, false, false, false, false] rfl rfl (by kernel_rfl) (fun _ _ _ h => h) (Or.inl ⟨by rfl, ?_⟩) ?_ ?_
   rotate_left
   ·intro w'
    go_simp
    with_reducible rfl
   rotate_left
   ·simp only [Act.put, List.setIfInBounds_toArray, List.set_cons_zero, List.set_cons_succ, i64_w, i32_w]
    rfl
   refine pure_ (i := 17) (N := some 78) (v := ?_) (a' := ?_) #[true, true, true, true, true, true, true, true, true, true, true, true, true, true, true, true, true, true, false, false, false, false, false, false, false, false, false, false, false, false, false, false, false, false, false, false, false, false, false, false] rfl rfl (by kernel_rfl) (fun _ _ _ h => h) (Or.inl ⟨by rfl, ?_⟩) ?_ ?_
   rotate_left
   ·intro w'
    go_simp
    with_reducible rfl
   rotate_left
   ·simp only [Act.put, List.setIfInBounds_toArray, List.set_cons_zero, List.set_cons_succ, i64_w, i32_w]
    rfl
   refine pure_ (i := 19) (N := some 80) (v := ?_) (a' := ?_) #[true, true, true, true, true, true, true, true, true, true, true, true, true, true, true, true, true, true, false, true, false, false, false, false, false, false, false, false, false, false, false, false, false, false, false, false, false, false, false, false] rfl rfl (by kernel_rfl) (fun _ _ _ h => h) (Or.inl ⟨by rfl, ?_⟩) ?_ ?_
   rotate_left
   ·intro w'
    go_simp
    with_reducible rfl
   rotate_left
   ·simp only [Act.put, List.setIfInBounds_toArray, List.set_cons_zero, List.set_cons_succ, i64_w, i32_w]
    rfl
   refine one_ (i := 18) (N := some 79) #[true, true, true, true, true, true, true, true, true, true, true, true, true, true, true, true, true, true, true, true, false, false, false, false, false, false, false, false, false, false, false, false, false, false, false, false, false, false, false, false] rfl rfl (by kernel_rfl) (by decide) (fun K hK => ?_)
   refine goes_ Try.func16 (by kernel_rfl) rfl #[.slice Al l.length cl, .string s] (by rfl) rfl rfl (by simp only [List.map_toArray, List.map_cons, List.map_nil]; rfl) ?_
   with_reducible refine (dir_Find.calls Al cl l s z _ D2.out.cl_ D2.out.nl_ H10.out).mono ?_
   rintro e w3_ ⟨rfl, hb⟩
   have D3 := Lib.hid (D2.out.of_below hb)
   clear hb D2
   refine ⟨_, rfl, ?_⟩
   refine hK.out _ _ (D3.out.conv) (fun hHeld => ?_)
   clear hK K
   refine norm_ (a' := ?_) ?_ ?_
   rotate_left
   ·show Act.put _ (some 79) _ = _
    simp only [Act.put, List.setIfInBounds_toArray, List.set_cons_zero, List.set_cons_succ, i64_w, i32_w]
    rfl
   refine pure_ (i := 20) (N := some 81) (v := ?_) (a' := ?_) #[true, true, true, true, true, true, true, true, true, true, true, true, true, true, true, true, true, true, true, true, true, false, false, false, false, false, false, false, false, false, false, false, false, false, false, false, false, false, false, false] rfl rfl (by kernel_rfl) (fun _ _ _ h => h) (Or.inl ⟨by rfl, ?_⟩) ?_ ?_
   rotate_left
   ·intro w'
    go_simp
    with_reducible rfl
   rotate_left
   ·simp only [Act.put, List.setIfInBounds_toArray, List.set_cons_zero, List.set_cons_succ, i64_w, i32_w]
    rfl
   refine pure_ (i := 21) (N := some 82) (v := ?_) (a' := ?_) #[true, true, true, true, true, true, true, true, true, true, true, true, true, true, true, true, true, true, true, true, true, true, false, false, false, false, false, false, false, false, false, false, false, false, false, false, false, false, false, false] rfl rfl (by kernel_rfl) (fun _ _ _ h => h) (Or.inl ⟨by rfl, ?_⟩) ?_ ?_
   rotate_left
   ·intro w'
    go_simp
    with_reducible rfl
   rotate_left
   ·simp only [Act.put, List.setIfInBounds_toArray, List.set_cons_zero, List.set_cons_succ, i64_w, i32_w]
    rfl
   refine pure_ (i := 22) (N := some 83) (v := ?_) (a' := ?_) #[true, true, true, true, true, true, true, true, true, true, true, true, true, true, true, true, true, true, true, true, true, true, true, false, false, false, false, false, false, false, false, false, false, false, false, false, false, false, false, false] rfl rfl (by kernel_rfl) (fun _ _ _ h => h) (Or.inl ⟨by rfl, ?_⟩) ?_ ?_
   rotate_left
   ·intro w'
    go_simp
    with_reducible rfl
   rotate_left
   ·simp only [Act.put, List.setIfInBounds_toArray, List.set_cons_zero, List.set_cons_succ, i64_w, i32_w]
    rfl
   refine pure_ (i := 23) (N := some 84) (v := ?_) (a' := ?_) #[true, true, true, true, true, true, true, true, true, true, true, true, true, true, true, true, true, true, true, true, true, true, true, true, false, false, false, false, false, false, false, false, false, false, false, false, false, false, false, false] rfl rfl (by kernel_rfl) (fun _ _ _ h => h) (Or.inl ⟨by rfl, ?_⟩) ?_ ?_
   rotate_left
   ·intro w'
    go_simp
    with_reducible rfl
   rotate_left
   ·simp only [Act.put, List.setIfInBounds_toArray, List.set_cons_zero, List.set_cons_succ, i64_w, i32_w]
    rfl
   refine one_ (i := 24) (N := some 85) #[true, true, true, true, true, true, true, true, true, true, true, true, true, true, true, true, true, true, true, true, true, true, true, true, true, false, false, false, false, false, false, false, false, false, false, false, false, false, false, false] rfl rfl (by kernel_rfl) (by decide) (fun K hK => ?_)
   refine goes_ Try.func12 (by kernel_rfl) rfl #[.slice Am m.length cm] (by rfl) rfl rfl (by simp only [List.map_toArray, List.map_cons, List.map_nil]; rfl) ?_
   with_reducible refine (recensionlaw23_may.calls k Am cm m false _ D3.out.cm_ D3.out.nm_ H11.out).mono ?_
   rintro e w4_ ⟨rfl, hb⟩
   have D4 := Lib.hid (D3.out.of_below hb)
   clear hb D3
   refine ⟨_, rfl, ?_⟩
   refine hK.out _ _ (D4.out.conv) (fun hHeld => ?_)
   clear hK K
   refine norm_ (a' := ?_) ?_ ?_
   rotate_left
   ·show Act.put _ (some 85) _ = _
    simp only [Act.put, List.setIfInBounds_toArray, List.set_cons_zero, List.set_cons_succ, i64_w, i32_w]
    rfl
   refine pure_ (i := 25) (N := some 86) (v := ?_) (a' := ?_) #[true, true, true, true, true, true, true, true, true, true, true, true, true, true, true, true, true, true, true, true, true, true, true, true, true, true, false, false, false, false, false, false, false, false, false, false, false, false, false, false] rfl rfl (by kernel_rfl) (fun _ _ _ h => h) (Or.inl ⟨by rfl, ?_⟩) ?_ ?_
   rotate_left
   ·intro w'
    go_simp
    with_reducible rfl
   rotate_left
   ·simp only [Act.put, List.setIfInBounds_toArray, List.set_cons_zero, List.set_cons_succ, i64_w, i32_w]
    rfl
   refine pure_ (i := 26) (N := some 87) (v := ?_) (a' := ?_) #[true, true, true, true, true, true, true, true, true, true, true, true, true, true, true, true, true, true, true, true, true, true, true, true, true, true, true, false, false, false, false, false, false, false, false, false, false, false, false, false] rfl rfl (by kernel_rfl) (fun _ _ _ h => h) (Or.inl ⟨by rfl, ?_⟩) ?_ ?_
   rotate_left
   ·intro w'
    go_simp
    with_reducible rfl
   rotate_left
   ·simp only [Act.put, List.setIfInBounds_toArray, List.set_cons_zero, List.set_cons_succ, i64_w, i32_w]
    rfl
   refine pure_ (i := 27) (N := some 88) (v := undef) (a' := ?_) #[true, true, true, true, true, true, true, true, true, true, true, true, true, true, true, true, true, true, true, true, true, true, true, true, true, true, true, true, false, false, false, false, false, false, false, false, false, false, false, false] rfl rfl (by kernel_rfl) (fun _ _ _ h => h) (Or.inr ⟨by rfl, rfl⟩) ?_ ?_
   rotate_left
   ·simp only [Act.put, List.setIfInBounds_toArray, List.set_cons_zero, List.set_cons_succ, i64_w, i32_w]
    rfl
   refine pure_ (i := 28) (N := some 89) (v := undef) (a' := ?_) #[true, true, true, true, true, true, true, true, true, true, true, true, true, true, true, true, true, true, true, true, true, true, true, true, true, true, true, true, true, false, false, false, false, false, false, false, false, false, false, false] rfl rfl (by kernel_rfl) (fun _ _ _ h => h) (Or.inr ⟨by rfl, rfl⟩) ?_ ?_
   rotate_left
   ·simp only [Act.put, List.setIfInBounds_toArray, List.set_cons_zero, List.set_cons_succ, i64_w, i32_w]
    rfl
   refine pure_ (i := 29) (N := some 90) (v := undef) (a' := ?_) #[true, true, true, true, true, true, true, true, true, true, true, true, true, true, true, true, true, true, true, true, true, true, true, true, true, true, true, true, true, true, false, false, false, false, false, false, false, false, false, false] rfl rfl (by kernel_rfl) (fun _ _ _ h => h) (Or.inr ⟨by rfl, rfl⟩) ?_ ?_
   rotate_left
   ·simp only [Act.put, List.setIfInBounds_toArray, List.set_cons_zero, List.set_cons_succ, i64_w, i32_w]
    rfl
   refine pure_ (i := 30) (N := some 91) (v := undef) (a' := ?_) #[true, true, true, true, true, true, true, true, true, true, true, true, true, true, true, true, true, true, true, true, true, true, true, true, true, true, true, true, true, true, true, false, false, false, false, false, false, false, false, false] rfl rfl (by kernel_rfl) (fun _ _ _ h => h) (Or.inr ⟨by rfl, rfl⟩) ?_ ?_
   rotate_left
   ·simp only [Act.put, List.setIfInBounds_toArray, List.set_cons_zero, List.set_cons_succ, i64_w, i32_w]
    rfl
   refine pure_ (i := 31) (N := some 92) (v := undef) (a' := ?_) #[true, true, true, true, true, true, true, true, true, true, true, true, true, true, true, true, true, true, true, true, true, true, true, true, true, true, true, true, true, true, true, true, false, false, false, false, false, false, false, false] rfl rfl (by kernel_rfl) (fun _ _ _ h => h) (Or.inr ⟨by rfl, rfl⟩) ?_ ?_
   rotate_left
   ·simp only [Act.put, List.setIfInBounds_toArray, List.set_cons_zero, List.set_cons_succ, i64_w, i32_w]
    rfl
   refine pure_ (i := 32) (N := some 93) (v := undef) (a' := ?_) #[true, true, true, true, true, true, true, true, true, true, true, true, true, true, true, true, true, true, true, true, true, true, true, true, true, true, true, true, true, true, true, true, true, false, false, false, false, false, false, false] rfl rfl (by kernel_rfl) (fun _ _ _ h => h) (Or.inr ⟨by rfl, rfl⟩) ?_ ?_
   rotate_left
   ·simp only [Act.put, List.setIfInBounds_toArray, List.set_cons_zero, List.set_cons_succ, i64_w, i32_w]
    rfl
   refine pure_ (i := 33) (N := some 94) (v := undef) (a' := ?_) #[true, true, true, true, true, true, true, true, true, true, true, true, true, true, true, true, true, true, true, true, true, true, true, true, true, true, true, true, true, true, true, true, true, true, false, false, false, false, false, false] rfl rfl (by kernel_rfl) (fun _ _ _ h => h) (Or.inr ⟨by rfl, rfl⟩) ?_ ?_
   rotate_left
   ·simp only [Act.put, List.setIfInBounds_toArray, List.set_cons_zero, List.set_cons_succ, i64_w, i32_w]
    rfl
   refine pure_ (i := 34) (N := some 95) (v := undef) (a' := ?_) #[true, true, true, true, true, true, true, true, true, true, true, true, true, true, true, true, true, true, true, true, true, true, true, true, true, true, true, true, true, true, true, true, true, true, true, false, false, false, false, false] rfl rfl (by kernel_rfl) (fun _ _ _ h => h) (Or.inr ⟨by rfl, rfl⟩) ?_ ?_
   rotate_left
   ·simp only [Act.put, List.setIfInBounds_toArray, List.set_cons_zero, List.set_cons_succ, i64_w, i32_w]
    rfl
   refine pure_ (i := 35) (N := some 96) (v := undef) (a' := ?_) #[true, true, true, true, true, true, true, true, true, true, true, true, true, true, true, true, true, true, true, true, true, true, true, true, true, true, true, true, true, true, true, true, true, true, true, true, false, false, false, false] rfl rfl (by kernel_rfl) (fun _ _ _ h => h) (Or.inr ⟨by rfl, rfl⟩) ?_ ?_
   rotate_left
   ·simp only [Act.put, List.setIfInBounds_toArray, List.set_cons_zero, List.set_cons_succ, i64_w, i32_w]
    rfl
   refine pure_ (i := 36) (N := some 97) (v := undef) (a' := ?_) #[true, true, true, true, true, true, true, true, true, true, true, true, true, true, true, true, true, true, true, true, true, true, true, true, true, true, true, true, true, true, true, true, true, true, true, true, true, false, false, false] rfl rfl (by kernel_rfl) (fun _ _ _ h => h) (Or.inr ⟨by rfl, rfl⟩) ?_ ?_
   rotate_left
   ·simp only [Act.put, List.setIfInBounds_toArray, List.set_cons_zero, List.set_cons_succ, i64_w, i32_w]
    rfl
   refine pure_ (i := 37) (N := some 98) (v := ?_) (a' := ?_) #[true, true, true, true, true, true, true, true, true, true, true, true, true, true, true, true, true, true, true, true, true, true, true, true, true, true, true, true, true, true, true, true, true, true, true, true, true, true, false, false] rfl rfl (by kernel_rfl) (fun _ _ _ h => h) (Or.inl ⟨by rfl, ?_⟩) ?_ ?_
   rotate_left
   ·intro w'
    go_simp
    with_reducible rfl
   rotate_left
   ·simp only [Act.put, List.setIfInBounds_toArray, List.set_cons_zero, List.set_cons_succ, i64_w, i32_w]
    rfl
   refine pure_ (i := 38) (N := some 99) (v := ?_) (a' := ?_) #[true, true, true, true, true, true, true, true, true, true, true, true, true, true, true, true, true, true, true, true, true, true, true, true, true, true, true, true, true, true, true, true, true, true, true, true, true, true, true, false] rfl rfl (by kernel_rfl) (fun _ _ _ h => h) (Or.inl ⟨by rfl, ?_⟩) ?_ ?_
   rotate_left
   ·intro w'
    go_simp
    with_reducible rfl
   rotate_left
   ·simp only [Act.put, List.setIfInBounds_toArray, List.set_cons_zero, List.set_cons_succ, i64_w, i32_w]
    rfl
   refine pure_ (i := 39) (N := some 6) (v := ?_) (a' := ?_) #[true, true, true, true, true, true, true, true, true, true, true, true, true, true, true, true, true, true, true, true, true, true, true, true, true, true, true, true, true, true, true, true, true, true, true, true, true, true, true, true] rfl rfl (by kernel_rfl) (fun _ _ _ h => h) (Or.inl ⟨by rfl, ?_⟩) ?_ ?_
   rotate_left
   ·intro w'
    go_simp
    with_reducible rfl
   rotate_left
   ·simp only [Act.put, List.setIfInBounds_toArray, List.set_cons_zero, List.set_cons_succ, i64_w, i32_w]
    rfl
   refine done_ (by kernel_rfl) ?_
   clear hHeld
   go_wp2
   go_ret
   exact ⟨rfl, D4.out.below_⟩
set_option maxHeartbeats 4000000 in
set_option maxRecDepth 100000 in
theorem da_yes (k : Nat) (A0 : Option Addr) (c0 : Nat) (l0 : List S32) (A1 : Option Addr) (c1 : Nat) (m0 : List S32) (a s : ByteArray) (l m : List S32) (w : World) (hr0 : Kd.C k32 w A0 l0.length l0) (hc0 : l0.length ≤ c0) (hr1 : Kd.C k32 w A1 m0.length m0) (hc1 : m0.length ≤ c1) (hbeg : recensionlaw23_begun.f k = some true) (h1 : recensionlaw23_Cut.f k l0 = some l) (h2 : recensionlaw23_Cut.f k m0 = some m) (h3 : recensionlaw3_Cut.f a 22 = some s) (b : List Int) (at_ : Int) (bm : List Int) (q : Bool) (h4 : dir_Encode.f k l = some b) (h5 : dir_May.f k l = some true) (h6 : recensionlaw23_may.f k l = some true) (h7 : dir_Decode.f k b = some (l, 0)) (h8 : recensionlaw23_bytes.f k l = some b) (h9 : recensionlaw23_eq.f k l l = some true) (h10 : dir_Find.f l s = some at_) (hat : atL s l 0 (-1) = at_) (hlen : l.length ≤ 100) (h11 : recensionlaw23_may.f k m = some true) (h12 : dir_Encode.f k m = some bm) (h13 : recensionlaw23_eq.f k l m = some q) (hq : ((strOfNums bm).toList == (strOfNums b).toList) = q) :
  Calls Try.prog 3 #[.slice A0 l0.length c0, .slice A1 m0.length c1, .string a] w fun e w' => e = .returned (.bool true) ∧ Below w.heap.size w w' := by
 have HR0 := Lib.hid hr0
 have HC0 := Lib.hid hc0
 have HR1 := Lib.hid hr1
 have HC1 := Lib.hid hc1
 have B := Lib.hid hbeg
 have H1 := Lib.hid h1
 have H2 := Lib.hid h2
 have H3 := Lib.hid h3
 have H4 := Lib.hid h4
 have H5 := Lib.hid h5
 have H6 := Lib.hid h6
 have H7 := Lib.hid h7
 have H8 := Lib.hid h8
 have H9 := Lib.hid h9
 have H10 := Lib.hid h10
 have H11 := Lib.hid h11
 have H12 := Lib.hid h12
 have H13 := Lib.hid h13
 have HAT := Lib.hid hat
 have HQ := Lib.hid hq
 clear hr0 hc0 hr1 hc1 hbeg h1 h2 h3 h4 h5 h6 h7 h8 h9 h10 h11 hat h12 h13 hq
 go_enter Try.func3, Try.ntmps3
 go_wp2_with fail
 refine (recensionlaw23_begun.calls k true _ B.out).mono ?_
 rintro e w1 ⟨rfl, hb1⟩
 have HB1 := Lib.hid hb1
 clear hb1
 go_wp2_with fail
 refine (recensionlaw23_Cut.calls k A0 c0 l0 l _ (Kd.C_below HR0.out HB1.out) HC0.out H1.out).mono ?_
 rintro e w2 ⟨v1, rfl, ho1, hb2⟩
 obtain ⟨Al, cl, rfl⟩ := Kd.R_slice ho1
 have HL := Lib.hid (Kd.R_reads' ho1).2
 have HB2 := Lib.hid (below_step HB1.out hb2)
 clear ho1 hb2
 go_wp2_with fail
 refine (recensionlaw23_Cut.calls k A1 c1 m0 m _ (Kd.C_below HR1.out HB2.out) HC1.out H2.out).mono ?_
 rintro e w3 ⟨v2, rfl, ho2, hb3⟩
 obtain ⟨Am, cm, rfl⟩ := Kd.R_slice ho2
 have HD := Lib.hid (show Da w w3 Al cl l Am cm m from ⟨below_step HB2.out hb3, Kd.C_below HL.out.2 hb3, HL.out.1, (Kd.R_reads' ho2).2.2, (Kd.R_reads' ho2).2.1⟩)
 clear ho2 hb3 HL HR0 HR1 HB1 HB2
 go_wp2_with fail
 refine (recensionlaw3_Cut.calls a 22 s _ H3.out).mono ?_
 rintro e w4 ⟨rfl, ⟨n4, rfl⟩⟩
 go_wp2_with fail
 refine (dir_Encode.calls k Al cl l b _ (HD.out.drewN n4).2.1 HD.out.2.2.1 H4.out).mono ?_
 rintro e w5 ⟨v5, rfl, ho5, hb5⟩
 obtain ⟨Ab, cb, rfl⟩ := Kd.R_slice ho5
 have KB5 := Lib.hid (Kd.R_reads' ho5).2
 have HD5 := Lib.hid ((HD.out.drewN n4).of_below hb5)
 clear ho5 hb5 HD
 go_wp2_with fail
 refine (dir_May.calls k Al cl l true _ HD5.out.2.1 HD5.out.2.2.1 H5.out).mono ?_
 rintro e w6 ⟨rfl, hb6⟩
 have HD6 := Lib.hid (HD5.out.of_below hb6)
 have KB6 := Lib.hid (Kd.C_below KB5.out.2 hb6)
 clear hb6 HD5
 go_wp2_with fail
 refine (recensionlaw23_may.calls k Al cl l true _ HD6.out.2.1 HD6.out.2.2.1 H6.out).mono ?_
 rintro e w7 ⟨rfl, hb7⟩
 have HD7 := Lib.hid (HD6.out.of_below hb7)
 have KB7 := Lib.hid (Kd.C_below KB6.out hb7)
 clear hb7 HD6 KB6
 go_wp2_with fail
 refine (recensionlaw23_may.calls k Al cl l true _ HD7.out.2.1 HD7.out.2.2.1 H6.out).mono ?_
 rintro e w8 ⟨rfl, hb8⟩
 have HD8 := Lib.hid (HD7.out.of_below hb8)
 have KB8 := Lib.hid (Kd.C_below KB7.out hb8)
 clear hb8 HD7 KB7
 go_wp2_with fail
 refine (recensionlaw23_may.calls k Al cl l true _ HD8.out.2.1 HD8.out.2.2.1 H6.out).mono ?_
 rintro e w9 ⟨rfl, hb9⟩
 have HD9 := Lib.hid (HD8.out.of_below hb9)
 have KB9 := Lib.hid (Kd.C_below KB8.out hb9)
 clear hb9 HD8 KB8
 go_wp2_with fail
 go_loopw [9, 10] (fun u9 u10 wr => ∃ (x z : Int), u10 = .int .i64 x ∧ u9 = .int .i64 z ∧ 0 ≤ x ∧ x ≤ l.length ∧ Aside0 (wr = w9) ∧ Aside0 (atL s (l.drop x.toNat) x z = at_)) (fun _ u10 _ => (l.length - (intOf u10).toNat))
 case atStart => exact ⟨0, -1, rfl, rfl, Int.le_refl _, by omega, ⟨rfl⟩, ⟨HAT.out⟩⟩
 case round =>
  obtain ⟨x, z, rfl, rfl, hx0, hxl, hw, HG⟩ := hrel
  obtain rfl := hw.out
  clear hw
  by_cases hlt : x < (l.length : Int)
  ·have b1 : decide (x < (l.length : Int)) = true := decide_eq_true hlt
   obtain ⟨ad, e0, q0, q1, q2, q3⟩ := at_T32 HD9.out.2.1 x hx0 hlt
   subst e0
   have hgo := atL_next s l x z hx0 hlt
   rw [HG.out] at hgo
   obtain ⟨ent, hent⟩ : ∃ ent, rd_T32 l x = ent := ⟨_, rfl⟩
   rw [hent] at q0 q1 q2 q3 hgo
   have HGO := Lib.hid hgo.symm
   have e12 : IntKind.i64.wrap (x + 1) = x + 1 := IntWalk.i64_in _ (by omega)
   clear hgo hent HG
   by_cases hq0 : ent.f0.toList = s.toList
   all_goals
    have HQ0 := Lib.hid hq0
    first | have t1 : (ent.f0.toList == s.toList) = true := beq_iff_eq.2 hq0 | have t1 : (ent.f0.toList == s.toList) = false := beq_eq_false_iff_ne.2 hq0
    clear hq0
    go_wp2_with fail
    go_roundw
    case rel => exact ⟨x + 1, _, rfl, rfl, by omega, by omega, ⟨by first | trivial | rfl⟩, ⟨by have := HGO.out; first | rwa [if_pos HQ0.out] at this | rwa [if_neg HQ0.out] at this⟩⟩
    case measure => simp [intOf]; omega
  ·have b1 : decide (x < (l.length : Int)) = false := decide_eq_false hlt
   have hxe : x = (l.length : Int) := by omega
   have hz : z = at_ := by
    have e := HG.out
    rw [hxe, atL_end] at e
    exact e
   subst hz
   clear HG
   go_wp2_with fail
   refine (dir_Decode.calls k Ab cb b l 0 _ KB9.out KB5.out.1 H7.out).mono ?_
   rintro e w10 ⟨v10, rfl, ho10, hb10⟩
   obtain ⟨Ax, cx, rfl⟩ := Kd.R_slice ho10
   have HX := Lib.hid (show Db w w10 Al cl l Am cm m Ab cb b Ax cx from ⟨HD9.out.of_below hb10, Kd.C_below KB9.out hb10, KB5.out.1, (Kd.R_reads' ho10).2.2, (Kd.R_reads' ho10).2.1⟩)
   clear ho10 hb10 HD9 KB9
   have D0 := Lib.hid HX.out.drew
   have hq := HQ.out
   go_wp2_with fail
   refine start_ (n := 40) (S := fun w' => (convert 26 9 (.slice Ab b.length cb)).run Try.prog w' = .ok (.string (strOfNums b)) w') (ds := []) #[false, false, false, false, false, false, false, false, false, false, false, false, false, false, false, false, false, false, false, false, false, false, false, false, false, false, false, false, false, false, false, false, false, false, false, false, false, false, false, false] (by kernel_rfl) rfl rfl (D0.out.conv) (fun hHeld => ?_)
   refine pure_ (i := 0) (N := some 61) (v := ?_) (a' := ?_) #[true, false, false, false, false, false, false, false, false, false, false, false, false, false, false, false, false, false, false, false, false, false, false, false, false, false, false, false, false, false, false, false, false, false, false, false, false, false, false, false] rfl rfl (by kernel_rfl) (fun _ _ _ h => h) (Or.inl ⟨by rfl, ?_⟩) ?_ ?_
   rotate_left
   ·intro w'
    go_simp
    with_reducible rfl
   rotate_left
   ·simp only [Act.put, List.setIfInBounds_toArray, List.set_cons_zero, List.set_cons_succ, i64_w, i32_w]
    rfl
   refine pure_ (i := 2) (N := some 63) (v := ?_) (a' := ?_) #[true, false, true, false, false, false, false, false, false, false, false, false, false, false, false, false, false, false, false, false, false, false, false, false, false, false, false, false, false, false, false, false, false, false, false, false, false, false, false, false] rfl rfl (by kernel_rfl) (fun _ _ _ h => h) (Or.inl ⟨by rfl, ?_⟩) ?_ ?_
   rotate_left
   ·intro w'
    go_simp
    with_reducible rfl
   rotate_left
   ·simp only [Act.put, List.setIfInBounds_toArray, List.set_cons_zero, List.set_cons_succ, i64_w, i32_w]
    rfl
   refine take_ (i := 1) (N := some 62) (v := ?_) (a' := ?_) #[true, true, true, false, false, false, false, false, false, false, false, false, false, false, false, false, false, false, false, false, false, false, false, false, false, false, false, false, false, false, false, false, false, false, false, false, false, false, false, false] rfl rfl (by kernel_rfl) (fun _ _ _ h => h) (Or.inl ⟨by rfl, ?_⟩) hHeld ?_ ?_
   rotate_left
   ·intro w' s0
    go_simp
    with_reducible rfl
   rotate_left
   ·simp only [Act.put, List.setIfInBounds_toArray, List.set_cons_zero, List.set_cons_succ, i64_w, i32_w]
    rfl
   refine one_ (i := 3) (N := some 64) #[true, true, true, true, false, false, false, false, false, false, false, false, false, false, false, false, false, false, false, false, false, false, false, false, false, false, false, false, false, false, false, false, false, false, false, false, false, false, false, false] rfl rfl (by kernel_rfl) (by decide) (fun K hK => ?_)
   refine goes_ Try.func14 (by kernel_rfl) rfl #[.slice Al l.length cl] (by rfl) rfl rfl (by simp only [List.map_toArray, List.map_cons, List.map_nil]; rfl) ?_
   with_reducible refine (recensionlaw23_bytes.calls k Al cl l b _ D0.out.cl_ D0.out.nl_ H8.out).mono ?_
   rintro e w1_ ⟨v1_, rfl, ho1, hb⟩
   obtain ⟨Ac, cc, rfl⟩ := Kd.R_slice ho1
   have hcv := Kd.C_string (P := Try.prog) (A := Ac) (c := cc) Try.underlying26 Try.underlying5 Try.underlying9 (Kd.R_reads' ho1).2.2
   have D1 := Lib.hid (D0.out.of_below hb)
   clear hb ho1 D0
   refine ⟨_, rfl, ?_⟩
   refine hK.out _ _ (D1.out.conv) (fun hHeld => ?_)
   clear hK K
   refine norm_ (a' := ?_) ?_ ?_
   rotate_left
   ·show Act.put _ (some 64) _ = _
    simp only [Act.put, List.setIfInBounds_toArray, List.set_cons_zero, List.set_cons_succ, i64_w, i32_w]
    rfl
   refine one_ (i := 4) (N := some 65) #[true, true, true, true, true, false, false, false, false, false, false, false, false, false, false, false, false, false, false, false, false, false, false, false, false, false, false, false, false, false, false, false, false, false, false, false, false, false, false, false] rfl rfl (by kernel_rfl) (by decide) (fun K hK => ?_)
   refine value_ (w1 := ?_) (v := ?_) (by rfl) rfl ?_ ?_
   rotate_left 2
   ·go_simp
    constructor
    ·rfl
    ·rfl
   refine hK.out _ _ (D1.out.conv) (fun hHeld => ?_)
   clear hK K
   refine norm_ (a' := ?_) ?_ ?_
   rotate_left
   ·show Act.put _ (some 65) _ = _
    simp only [Act.put, List.setIfInBounds_toArray, List.set_cons_zero, List.set_cons_succ, i64_w, i32_w]
    rfl
   refine pure_ (i := 5) (N := some 66) (v := ?_) (a' := ?_) #[true, true, true, true, true, true, false, false, false, false, false, false, false, false, false, false, false, false, false, false, false, false, false, false, false, false, false, false, false, false, false, false, false, false, false, false, false, false, false, false] rfl rfl (by kernel_rfl) (fun _ _ _ h => h) (Or.inl ⟨by rfl, ?_⟩) ?_ ?_
   rotate_left
   ·intro w'
    go_simp
    with_reducible rfl
   rotate_left
   ·simp only [Act.put, List.setIfInBounds_toArray, List.set_cons_zero, List.set_cons_succ, i64_w, i32_w]
    rfl
   refine pure_ (i := 6) (N := some 67) (v := ?_) (a' := ?_) #[true, true, true, true, true, true, true, false, false, false, false, false, false, false, false, false, false, false, false, false, false, false, false, false, false, false, false, false, false, false, false, false, false, false, false, false, false, false, false, false] rfl rfl (by kernel_rfl) (fun _ _ _ h => h) (Or.inl ⟨by rfl, ?_⟩) ?_ ?_
   rotate_left
   ·intro w'
    go_simp
    with_reducible rfl
   rotate_left
   ·simp only [Act.put, List.setIfInBounds_toArray, List.set_cons_zero, List.set_cons_succ, i64_w, i32_w]
    rfl
   refine pure_ (i := 7) (N := some 68) (v := ?_) (a' := ?_) #[true, true, true, true, true, true, true, true, false, false, false, false, false, false, false, false, false, false, false, false, false, false, false, false, false, false, false, false, false, false, false, false, false, false, false, false, false, false, false, false] rfl rfl (by kernel_rfl) (fun _ _ _ h => h) (Or.inl ⟨by rfl, ?_⟩) ?_ ?_
   rotate_left
   ·intro w'
    go_simp
    with_reducible rfl
   rotate_left
   ·simp only [Act.put, List.setIfInBounds_toArray, List.set_cons_zero, List.set_cons_succ, i64_w, i32_w]
    rfl
   refine pure_ (i := 8) (N := some 69) (v := ?_) (a' := ?_) #[true, true, true, true, true, true, true, true, true, false, false, false, false, false, false, false, false, false, false, false, false, false, false, false, false, false, false, false, false, false, false, false, false, false, false, false, false, false, false, false] rfl rfl (by kernel_rfl) (fun _ _ _ h => h) (Or.inl ⟨by rfl, ?_⟩) ?_ ?_
   rotate_left
   ·intro w'
    go_simp
    with_reducible rfl
   rotate_left
   ·simp only [Act.put, List.setIfInBounds_toArray, List.set_cons_zero, List.set_cons_succ, i64_w, i32_w]
    rfl
   refine pure_ (i := 9) (N := some 70) (v := ?_) (a' := ?_) #[true, true, true, true, true, true, true, true, true, true, false, false, false, false, false, false, false, false, false, false, false, false, false, false, false, false, false, false, false, false, false, false, false, false, false, false, false, false, false, false] rfl rfl (by kernel_rfl) (fun _ _ _ h => h) (Or.inl ⟨by rfl, ?_⟩) ?_ ?_
   rotate_left
   ·intro w'
    go_simp
    with_reducible rfl
   rotate_left
   ·simp only [Act.put, List.setIfInBounds_toArray, List.set_cons_zero, List.set_cons_succ, i64_w, i32_w]
    rfl
   refine pure_ (i := 10) (N := some 71) (v := ?_) (a' := ?_) #[true, true, true, true, true, true, true, true, true, true, true, false, false, false, false, false, false, false, false, false, false, false, false, false, false, false, false, false, false, false, false, false, false, false, false, false, false, false, false, false] rfl rfl (by kernel_rfl) (fun _ _ _ h => h) (Or.inl ⟨by rfl, ?_⟩) ?_ ?_
   rotate_left
   ·intro w'
    go_simp
    with_reducible rfl
   rotate_left
   ·simp only [Act.put, List.setIfInBounds_toArray, List.set_cons_zero, List.set_cons_succ, i64_w, i32_w]
    rfl
   refine pure_ (i := 11) (N := some 72) (v := ?_) (a' := ?_) #[true, true, true, true, true, true, true, true, true, true, true, true, false, false, false, false, false, false, false, false, false, false, false, false, false, false, false, false, false, false, false, false, false, false, false, false, false, false, false, false] rfl rfl (by kernel_rfl) (fun _ _ _ h => h) (Or.inl ⟨by rfl, ?_⟩) ?_ ?_
   rotate_left
   ·intro w'
    go_simp
    with_reducible rfl
   rotate_left
   ·simp only [Act.put, List.setIfInBounds_toArray, List.set_cons_zero, List.set_cons_succ, i64_w, i32_w]
    rfl
   refine pure_ (i := 12) (N := some 73) (v := ?_) (a' := ?_) #[true, true, true, true, true, true, true, true, true, true, true, true, true, false, false, false, false, false, false, false, false, false, false, false, false, false, false, false, false, false, false, false, false, false, false, false, false, false, false, false] rfl rfl (by kernel_rfl) (fun _ _ _ h => h) (Or.inl ⟨by rfl, ?_⟩) ?_ ?_
   rotate_left
   ·intro w'
    go_simp
    with_reducible rfl
   rotate_left
   ·simp only [Act.put, List.setIfInBounds_toArray, List.set_cons_zero, List.set_cons_succ, i64_w, i32_w]
    rfl
   refine one_ (i := 13) (N := some 74) #[true, true, true, true, true, true, true, true, true, true, true, true, true, true, false, false, false, false, false, false, false, false, false, false, false, false, false, false, false, false, false, false, false, false, false, false, false, false, false, false] rfl rfl (by kernel_rfl) (by decide) (fun K hK => ?_)
   clear hcv
   refine goes_ Try.func15 (by kernel_rfl) rfl #[.slice Ax l.length cx, .slice Al l.length cl] (by rfl) rfl rfl (by simp only [List.map_toArray, List.map_cons, List.map_nil]; rfl) ?_
   with_reducible refine (recensionlaw23_eq.calls k Ax cx l Al cl l true _ D1.out.cx_ D1.out.nx_ D1.out.cl_ D1.out.nl_ H9.out).mono ?_
   rintro e w2_ ⟨rfl, ⟨n2, rfl⟩⟩
   have D2 := Lib.hid (D1.out.drewN n2)
   clear D1
   refine ⟨_, rfl, ?_⟩
   refine hK.out _ _ (D2.out.conv) (fun hHeld => ?_)
   clear hK K
   refine norm_ (a' := ?_) ?_ ?_
   rotate_left
   ·show Act.put _ (some 74) _ = _
    simp only [Act.put, List.setIfInBounds_toArray, List.set_cons_zero, List.set_cons_succ, i64_w, i32_w]
    rfl
   refine pure_ (i := 14) (N := some 75) (v := ?_) (a' := ?_) #[true, true, true, true, true, true, true, true, true, true, true, true, true, true, true, false, false, false, false, false, false, false, false, false, false, false, false, false, false, false, false, false, false, false, false, false, false, false, false, false] rfl rfl (by kernel_rfl) (fun _ _ _ h => h) (Or.inl ⟨by rfl, ?_⟩) ?_ ?_
   rotate_left
   ·intro w'
    go_simp
    with_reducible rfl
   rotate_left
   ·simp only [Act.put, List.setIfInBounds_toArray, List.set_cons_zero, List.set_cons_succ, i64_w, i32_w]
    rfl
   refine pure_ (i := 15) (N := some 76) (v := ?_) (a' := ?_) #[true, true, true, true, true, true, true, true, true, true, true, true, true, true, true, true, false, false, false, false, false, false, false, false, false, false, false, false, false, false, false, false, false, false, false, false, false, false, false, false] rfl rfl (by kernel_rfl) (fun _ _ _ h => h) (Or.inl ⟨by rfl, ?_⟩) ?_ ?_
   rotate_left
   ·intro w'
    go_simp
    with_reducible rfl
   rotate_left
   ·simp only [Act.put, List.setIfInBounds_toArray, List.set_cons_zero, List.set_cons_succ, i64_w, i32_w]
    rfl
   refine pure_ (i := 16) (N := some 77) (v := ?_) (a' := ?_) #[true, true, true, true, true, true, true, true, true, true, true, true, true, true, true, true, true, false, false, false, false, false, false, false, false, false, false, false, false, false, false, false, false, false, false, false, false, false, false, false] rfl rfl (by kernel_rfl) (fun _ _ _ h => h) (Or.inl ⟨by rfl, ?_⟩) ?_ ?_
   rotate_left
   ·intro w'
    go_simp
    with_reducible rfl
   rotate_left
   ·simp only [Act.put, List.setIfInBounds_toArray, List.set_cons_zero, List.set_cons_succ, i64_w, i32_w]
    rfl
   refine pure_ (i := 17) (N := some 78) (v := ?_) (a' := ?_) #[true, true, true, true, true, true, true, true, true, true, true, true, true, true, true, true, true, true, false, false, false, false, false, false, false, false, false, false, false, false, false, false, false, false, false, false, false, false, false, false] rfl rfl (by kernel_rfl) (fun _ _ _ h => h) (Or.inl ⟨by rfl, ?_⟩) ?_ ?_
   rotate_left
   ·intro w'
    go_simp
    with_reducible rfl
   rotate_left
   ·simp only [Act.put, List.setIfInBounds_toArray, List.set_cons_zero, List.set_cons_succ, i64_w, i32_w]
    rfl
   refine pure_ (i := 19) (N := some 80) (v := ?_) (a' := ?_) #[true, true, true, true, true, true, true, true, true, true, true, true, true, true, true, true, true, true, false, true, false, false, false, false, false, false, false, false, false, false, false, false, false, false, false, false, false, false, false, false] rfl rfl (by kernel_rfl) (fun _ _ _ h => h) (Or.inl ⟨by rfl, ?_⟩) ?_ ?_
   rotate_left
   ·intro w'
    go_simp
    with_reducible rfl
   rotate_left
   ·simp only [Act.put, List.setIfInBounds_toArray, List.set_cons_zero, List.set_cons_succ, i64_w, i32_w]
    rfl
   refine one_ (i := 18) (N := some 79) #[true, true, true, true, true, true, true, true, true, true, true, true, true, true, true, true, true, true, true, true, false, false, false, false, false, false, false, false, false, false, false, false, false, false, false, false, false, false, false, false] rfl rfl (by kernel_rfl) (by decide) (fun K hK => ?_)
   refine goes_ Try.func16 (by kernel_rfl) rfl #[.slice Al l.length cl, .string s] (by rfl) rfl rfl (by simp only [List.map_toArray, List.map_cons, List.map_nil]; rfl) ?_
   with_reducible refine (dir_Find.calls Al cl l s z _ D2.out.cl_ D2.out.nl_ H10.out).mono ?_
   rintro e w3_ ⟨rfl, hb⟩
   have D3 := Lib.hid (D2.out.of_below hb)
   clear hb D2
   refine ⟨_, rfl, ?_⟩
   refine hK.out _ _ (D3.out.conv) (fun hHeld => ?_)
   clear hK K
   refine norm_ (a' := ?_) ?_ ?_
   rotate_left
   ·show Act.put _ (some 79) _ = _
    simp only [Act.put, List.setIfInBounds_toArray, List.set_cons_zero, List.set_cons_succ, i64_w, i32_w]
    rfl
   refine pure_ (i := 20) (N := some 81) (v := ?_) (a' := ?_) #[true, true, true, true, true, true, true, true, true, true, true, true, true, true, true, true, true, true, true, true, true, false, false, false, false, false, false, false, false, false, false, false, false, false, false, false, false, false, false, false] rfl rfl (by kernel_rfl) (fun _ _ _ h => h) (Or.inl ⟨by rfl, ?_⟩) ?_ ?_
   rotate_left
   ·intro w'
    go_simp
    with_reducible rfl
   rotate_left
   ·simp only [Act.put, List.setIfInBounds_toArray, List.set_cons_zero, List.set_cons_succ, i64_w, i32_w]
    rfl
   refine pure_ (i := 21) (N := some 82) (v := ?_) (a' := ?_) #[true, true, true, true, true, true, true, true, true, true, true, true, true, true, true, true, true, true, true, true, true, true, false, false, false, false, false, false, false, false, false, false, false, false, false, false, false, false, false, false] rfl rfl (by kernel_rfl) (fun _ _ _ h => h) (Or.inl ⟨by rfl, ?_⟩) ?_ ?_
   rotate_left
   ·intro w'
    go_simp
    with_reducible rfl
   rotate_left
   ·simp only [Act.put, List.setIfInBounds_toArray, List.set_cons_zero, List.set_cons_succ, i64_w, i32_w]
    rfl
   refine pure_ (i := 22) (N := some 83) (v := ?_) (a' := ?_) #[true, true, true, true, true, true, true, true, true, true, true, true, true, true, true, true, true, true, true, true, true, true, true, false, false, false, false, false, false, false, false, false, false, false, false, false, false, false, false, false] rfl rfl (by kernel_rfl) (fun _ _ _ h => h) (Or.inl ⟨by rfl, ?_⟩) ?_ ?_
   rotate_left
   ·intro w'
    go_simp
    with_reducible rfl
   rotate_left
   ·simp only [Act.put, List.setIfInBounds_toArray, List.set_cons_zero, List.set_cons_succ, i64_w, i32_w]
    rfl
   refine pure_ (i := 23) (N := some 84) (v := ?_) (a' := ?_) #[true, true, true, true, true, true, true, true, true, true, true, true, true, true, true, true, true, true, true, true, true, true, true, true, false, false, false, false, false, false, false, false, false, false, false, false, false, false, false, false] rfl rfl (by kernel_rfl) (fun _ _ _ h => h) (Or.inl ⟨by rfl, ?_⟩) ?_ ?_
   rotate_left
   ·intro w'
    go_simp
    with_reducible rfl
   rotate_left
   ·simp only [Act.put, List.setIfInBounds_toArray, List.set_cons_zero, List.set_cons_succ, i64_w, i32_w]
    rfl
   refine one_ (i := 24) (N := some 85) #[true, true, true, true, true, true, true, true, true, true, true, true, true, true, true, true, true, true, true, true, true, true, true, true, true, false, false, false, false, false, false, false, false, false, false, false, false, false, false, false] rfl rfl (by kernel_rfl) (by decide) (fun K hK => ?_)
   refine goes_ Try.func12 (by kernel_rfl) rfl #[.slice Am m.length cm] (by rfl) rfl rfl (by simp only [List.map_toArray, List.map_cons, List.map_nil]; rfl) ?_
   with_reducible refine (recensionlaw23_may.calls k Am cm m true _ D3.out.cm_ D3.out.nm_ H11.out).mono ?_
   rintro e w4_ ⟨rfl, hb⟩
   have D4 := Lib.hid (D3.out.of_below hb)
   clear hb D3
   refine ⟨_, rfl, ?_⟩
   refine hK.out _ _ (D4.out.conv) (fun hHeld => ?_)
   clear hK K
   refine norm_ (a' := ?_) ?_ ?_
   rotate_left
   ·show Act.put _ (some 85) _ = _
    simp only [Act.put, List.setIfInBounds_toArray, List.set_cons_zero, List.set_cons_succ, i64_w, i32_w]
    rfl
   refine pure_ (i := 25) (N := some 86) (v := ?_) (a' := ?_) #[true, true, true, true, true, true, true, true, true, true, true, true, true, true, true, true, true, true, true, true, true, true, true, true, true, true, false, false, false, false, false, false, false, false, false, false, false, false, false, false] rfl rfl (by kernel_rfl) (fun _ _ _ h => h) (Or.inl ⟨by rfl, ?_⟩) ?_ ?_
   rotate_left
   ·intro w'
    go_simp
    with_reducible rfl
   rotate_left
   ·simp only [Act.put, List.setIfInBounds_toArray, List.set_cons_zero, List.set_cons_succ, i64_w, i32_w]
    rfl
   refine pure_ (i := 26) (N := some 87) (v := ?_) (a' := ?_) #[true, true, true, true, true, true, true, true, true, true, true, true, true, true, true, true, true, true, true, true, true, true, true, true, true, true, true, false, false, false, false, false, false, false, false, false, false, false, false, false] rfl rfl (by kernel_rfl) (fun _ _ _ h => h) (Or.inl ⟨by rfl, ?_⟩) ?_ ?_
   rotate_left
   ·intro w'
    go_simp
    with_reducible rfl
   rotate_left
   ·simp only [Act.put, List.setIfInBounds_toArray, List.set_cons_zero, List.set_cons_succ, i64_w, i32_w]
    rfl
   refine pure_ (i := 27) (N := some 88) (v := ?_) (a' := ?_) #[true, true, true, true, true, true, true, true, true, true, true, true, true, true, true, true, true, true, true, true, true, true, true, true, true, true, true, true, false, false, false, false, false, false, false, false, false, false, false, false] rfl rfl (by kernel_rfl) (fun _ _ _ h => h) (Or.inl ⟨by rfl, ?_⟩) ?_ ?_
   rotate_left
   ·intro w'
    go_simp
    with_reducible rfl
   rotate_left
   ·simp only [Act.put, List.setIfInBounds_toArray, List.set_cons_zero, List.set_cons_succ, i64_w, i32_w]
    rfl
   refine pure_ (i := 30) (N := some 91) (v := ?_) (a' := ?_) #[true, true, true, true, true, true, true, true, true, true, true, true, true, true, true, true, true, true, true, true, true, true, true, true, true, true, true, true, false, false, true, false, false, false, false, false, false, false, false, false] rfl rfl (by kernel_rfl) (fun _ _ _ h => h) (Or.inl ⟨by rfl, ?_⟩) ?_ ?_
   rotate_left
   ·intro w'
    go_simp
    with_reducible rfl
   rotate_left
   ·simp only [Act.put, List.setIfInBounds_toArray, List.set_cons_zero, List.set_cons_succ, i64_w, i32_w]
    rfl
   refine pure_ (i := 33) (N := some 94) (v := ?_) (a' := ?_) #[true, true, true, true, true, true, true, true, true, true, true, true, true, true, true, true, true, true, true, true, true, true, true, true, true, true, true, true, false, false, true, false, false, true, false, false, false, false, false, false] rfl rfl (by kernel_rfl) (fun _ _ _ h => h) (Or.inl ⟨by rfl, ?_⟩) ?_ ?_
   rotate_left
   ·intro w'
    go_simp
    with_reducible rfl
   rotate_left
   ·simp only [Act.put, List.setIfInBounds_toArray, List.set_cons_zero, List.set_cons_succ, i64_w, i32_w]
    rfl
   refine pure_ (i := 34) (N := some 95) (v := ?_) (a' := ?_) #[true, true, true, true, true, true, true, true, true, true, true, true, true, true, true, true, true, true, true, true, true, true, true, true, true, true, true, true, false, false, true, false, false, true, true, false, false, false, false, false] rfl rfl (by kernel_rfl) (fun _ _ _ h => h) (Or.inl ⟨by rfl, ?_⟩) ?_ ?_
   rotate_left
   ·intro w'
    go_simp
    with_reducible rfl
   rotate_left
   ·simp only [Act.put, List.setIfInBounds_toArray, List.set_cons_zero, List.set_cons_succ, i64_w, i32_w]
    rfl
   refine take_ (i := 31) (N := some 92) (v := ?_) (a' := ?_) #[true, true, true, true, true, true, true, true, true, true, true, true, true, true, true, true, true, true, true, true, true, true, true, true, true, true, true, true, false, false, true, true, false, true, true, false, false, false, false, false] rfl rfl (by kernel_rfl) (fun _ _ _ h => h) (Or.inl ⟨by rfl, ?_⟩) hHeld ?_ ?_
   rotate_left
   ·intro w' s0
    go_simp
    with_reducible rfl
   rotate_left
   ·simp only [Act.put, List.setIfInBounds_toArray, List.set_cons_zero, List.set_cons_succ, i64_w, i32_w]
    rfl
   refine one_ (i := 28) (N := some 89) #[true, true, true, true, true, true, true, true, true, true, true, true, true, true, true, true, true, true, true, true, true, true, true, true, true, true, true, true, true, false, true, true, false, true, true, false, false, false, false, false] rfl rfl (by kernel_rfl) (by decide) (fun K hK => ?_)
   refine goes_ Try.func10 (by kernel_rfl) rfl #[.slice Am m.length cm] (by rfl) rfl rfl (by simp only [List.map_toArray, List.map_cons, List.map_nil]; rfl) ?_
   with_reducible refine (dir_Encode.calls k Am cm m bm _ D4.out.cm_ D4.out.nm_ H12.out).mono ?_
   rintro e w5_ ⟨v5_, rfl, ho5, hb⟩
   obtain ⟨Ae, ce, rfl⟩ := Kd.R_slice ho5
   have KE := Lib.hid (Kd.R_reads' ho5).2.2
   have D5 := Lib.hid (D4.out.of_below hb)
   clear hb ho5 D4
   refine ⟨_, rfl, ?_⟩
   refine hK.out _ _ (D5.out.conv) (fun hHeld => ?_)
   clear hK K
   refine norm_ (a' := ?_) ?_ ?_
   rotate_left
   ·show Act.put _ (some 89) _ = _
    simp only [Act.put, List.setIfInBounds_toArray, List.set_cons_zero, List.set_cons_succ, i64_w, i32_w]
    rfl
   refine join_ (σ := Unit) 4 #[true, true, true, true, true, true, true, true, true, true, true, true, true, true, true, true, true, true, true, true, true, true, true, true, true, true, true, true, true, true, true, true, true, true, true, true, false, false, false, false] (fun _ => [(90, .string (strOfNums bm)), (93, .bool q), (96, .bool q)]) (fun _ w' => Below w.heap.size w w' ∧ (convert 26 9 (.slice Ab b.length cb)).run Try.prog w' = .ok (.string (strOfNums b)) w') ?_ ?_
   rotate_left
   ·intro hCont
    refine two_ (i := 29) (j := 35) (Ni := some 90) (Nj := some 96) #[true, true, true, true, true, true, true, true, true, true, true, true, true, true, true, true, true, true, true, true, true, true, true, true, true, true, true, true, true, true, true, true, false, true, true, false, false, false, false, false] #[true, true, true, true, true, true, true, true, true, true, true, true, true, true, true, true, true, true, true, true, true, true, true, true, true, true, true, true, true, false, true, true, false, true, true, true, false, false, false, false] rfl rfl rfl rfl (by kernel_rfl) (by decide) (by decide) (fun K hK => ?_) (fun K hK => ?_)
    ·skip
     have hce := Kd.C_string (P := Try.prog) (A := Ae) (c := ce) Try.underlying26 Try.underlying5 Try.underlying9 KE.out
     refine value_ (w1 := ?_) (v := ?_) (by rfl) rfl ?_ ?_
     rotate_left 2
     ·go_simp
      constructor
      ·rfl
      ·rfl
     clear hce
     refine hK.out _ _ (D5.out.conv) (fun hHeld => ?_)
     clear hK K
     refine norm_ (a' := ?_) ?_ ?_
     rotate_left
     ·show Act.put _ (some 90) _ = _
      simp only [Act.put, List.setIfInBounds_toArray, List.set_cons_zero, List.set_cons_succ, i64_w, i32_w]
      rfl
     refine pure_ (i := 32) (N := some 93) (v := ?_) (a' := ?_) #[true, true, true, true, true, true, true, true, true, true, true, true, true, true, true, true, true, true, true, true, true, true, true, true, true, true, true, true, true, true, true, true, true, true, true, false, false, false, false, false] rfl rfl (by kernel_rfl) (fun _ _ _ h => h) (Or.inl ⟨by rfl, ?_⟩) ?_ ?_
     rotate_left
     ·intro w'
      go_simp
      with_reducible rfl
     rotate_left
     ·simp only [Act.put, List.setIfInBounds_toArray, List.set_cons_zero, List.set_cons_succ, i64_w, i32_w]
      rfl
     refine one_ (i := 35) (N := some 96) #[true, true, true, true, true, true, true, true, true, true, true, true, true, true, true, true, true, true, true, true, true, true, true, true, true, true, true, true, true, true, true, true, true, true, true, true, false, false, false, false] rfl rfl (by kernel_rfl) (by decide) (fun K hK => ?_)
     refine goes_ Try.func15 (by kernel_rfl) rfl #[.slice Al l.length cl, .slice Am m.length cm] (by rfl) rfl rfl (by simp only [List.map_toArray, List.map_cons, List.map_nil]; rfl) ?_
     with_reducible refine (recensionlaw23_eq.calls k Al cl l Am cm m q _ D5.out.cl_ D5.out.nl_ D5.out.cm_ D5.out.nm_ H13.out).mono ?_
     rintro e w6_ ⟨rfl, ⟨n6, rfl⟩⟩
     refine ⟨_, rfl, ?_⟩
     refine hK.out _ _ ((D5.out.drewN _).conv) (fun hHeld => ?_)
     clear hK K
     refine norm_ (a' := ?_) ?_ ?_
     rotate_left
     ·show Act.put _ (some 96) _ = _
      simp only [Act.put, List.setIfInBounds_toArray, List.set_cons_zero, List.set_cons_succ, i64_w, i32_w]
      rfl
     exact norm_ (by simp only [putAll, Act.put, List.setIfInBounds_toArray, List.set_cons_zero, List.set_cons_succ]) (hCont () _ ⟨(D5.out.drewN _).below_, (D5.out.drewN _).conv⟩)
    ·skip
     refine goes_ Try.func15 (by kernel_rfl) rfl #[.slice Al l.length cl, .slice Am m.length cm] (by rfl) rfl rfl (by simp only [List.map_toArray, List.map_cons, List.map_nil]; rfl) ?_
     with_reducible refine (recensionlaw23_eq.calls k Al cl l Am cm m q _ D5.out.cl_ D5.out.nl_ D5.out.cm_ D5.out.nm_ H13.out).mono ?_
     rintro e w6_ ⟨rfl, ⟨n6, rfl⟩⟩
     refine ⟨_, rfl, ?_⟩
     refine hK.out _ _ ((D5.out.drewN _).conv) (fun hHeld => ?_)
     clear hK K
     refine norm_ (a' := ?_) ?_ ?_
     rotate_left
     ·show Act.put _ (some 96) _ = _
      simp only [Act.put, List.setIfInBounds_toArray, List.set_cons_zero, List.set_cons_succ, i64_w, i32_w]
      rfl
     refine one_ (i := 29) (N := some 90) #[true, true, true, true, true, true, true, true, true, true, true, true, true, true, true, true, true, true, true, true, true, true, true, true, true, true, true, true, true, true, true, true, false, true, true, true, false, false, false, false] rfl rfl (by kernel_rfl) (by decide) (fun K hK => ?_)
     have hce := Kd.C_string (P := Try.prog) (A := Ae) (c := ce) Try.underlying26 Try.underlying5 Try.underlying9 (Kd.C_drewN KE.out n6)
     refine value_ (w1 := ?_) (v := ?_) (by rfl) rfl ?_ ?_
     rotate_left 2
     ·go_simp
      constructor
      ·rfl
      ·rfl
     clear hce
     refine hK.out _ _ ((D5.out.drewN _).conv) (fun hHeld => ?_)
     clear hK K
     refine norm_ (a' := ?_) ?_ ?_
     rotate_left
     ·show Act.put _ (some 90) _ = _
      simp only [Act.put, List.setIfInBounds_toArray, List.set_cons_zero, List.set_cons_succ, i64_w, i32_w]
      rfl
     refine pure_ (i := 32) (N := some 93) (v := ?_) (a' := ?_) #[true, true, true, true, true, true, true, true, true, true, true, true, true, true, true, true, true, true, true, true, true, true, true, true, true, true, true, true, true, true, true, true, true, true, true, true, false, false, false, false] rfl rfl (by kernel_rfl) (fun _ _ _ h => h) (Or.inl ⟨by rfl, ?_⟩) ?_ ?_
     rotate_left
     ·intro w'
      go_simp
      with_reducible rfl
     rotate_left
     ·simp only [Act.put, List.setIfInBounds_toArray, List.set_cons_zero, List.set_cons_succ, i64_w, i32_w]
      rfl
     exact norm_ (by simp only [putAll, Act.put, List.setIfInBounds_toArray, List.set_cons_zero, List.set_cons_succ]) (hCont () _ ⟨(D5.out.drewN _).below_, (D5.out.drewN _).conv⟩)
   rintro _ w7 ⟨hw7, hHeld⟩
   have HW7 := Lib.hid hw7
   clear hw7
   refine norm_ (a' := ?_) ?_ ?_
   rotate_left
   ·simp only [putAll, Act.put, List.setIfInBounds_toArray, List.set_cons_zero, List.set_cons_succ]
    rfl
   refine pure_ (i := 36) (N := some 97) (v := ?_) (a' := ?_) #[true, true, true, true, true, true, true, true, true, true, true, true, true, true, true, true, true, true, true, true, true, true, true, true, true, true, true, true, true, true, true, true, true, true, true, true, true, false, false, false] rfl rfl (by kernel_rfl) (fun _ _ _ h => h) (Or.inl ⟨by rfl, ?_⟩) ?_ ?_
   rotate_left
   ·intro w'
    go_simp
    with_reducible rfl
   rotate_left
   ·simp only [Act.put, List.setIfInBounds_toArray, List.set_cons_zero, List.set_cons_succ, i64_w, i32_w]
    rfl
   refine pure_ (i := 37) (N := some 98) (v := ?_) (a' := ?_) #[true, true, true, true, true, true, true, true, true, true, true, true, true, true, true, true, true, true, true, true, true, true, true, true, true, true, true, true, true, true, true, true, true, true, true, true, true, true, false, false] rfl rfl (by kernel_rfl) (fun _ _ _ h => h) (Or.inl ⟨by rfl, ?_⟩) ?_ ?_
   rotate_left
   ·intro w'
    go_simp
    with_reducible rfl
   rotate_left
   ·simp only [Act.put, List.setIfInBounds_toArray, List.set_cons_zero, List.set_cons_succ, i64_w, i32_w]
    rfl
   refine pure_ (i := 38) (N := some 99) (v := ?_) (a' := ?_) #[true, true, true, true, true, true, true, true, true, true, true, true, true, true, true, true, true, true, true, true, true, true, true, true, true, true, true, true, true, true, true, true, true, true, true, true, true, true, true, false] rfl rfl (by kernel_rfl) (fun _ _ _ h => h) (Or.inl ⟨by rfl, ?_⟩) ?_ ?_
   rotate_left
   ·intro w'
    go_simp
    with_reducible rfl
   rotate_left
   ·simp only [Act.put, List.setIfInBounds_toArray, List.set_cons_zero, List.set_cons_succ, i64_w, i32_w]
    rfl
   refine pure_ (i := 39) (N := some 6) (v := ?_) (a' := ?_) #[true, true, true, true, true, true, true, true, true, true, true, true, true, true, true, true, true, true, true, true, true, true, true, true, true, true, true, true, true, true, true, true, true, true, true, true, true, true, true, true] rfl rfl (by kernel_rfl) (fun _ _ _ h => h) (Or.inl ⟨by rfl, ?_⟩) ?_ ?_
   rotate_left
   ·intro w'
    go_simp
    with_reducible rfl
   rotate_left
   ·simp only [Act.put, List.setIfInBounds_toArray, List.set_cons_zero, List.set_cons_succ, i64_w, i32_w]
    rfl
   refine done_ (by kernel_rfl) ?_
   clear hHeld
   go_wp2
   go_ret
   exact ⟨rfl, HW7.out⟩
def DirAllOK (k : Nat) (l0 m0 : List S32) (a : ByteArray) : Prop := recensionlaw23_begun.f k = some true ∧ ∃ (l m : List S32) (s : ByteArray), recensionlaw23_Cut.f k l0 = some l ∧ recensionlaw23_Cut.f k m0 = some m ∧ recensionlaw3_Cut.f a 22 = some s ∧
 ((dir_Encode.f k l = some [] ∧ dir_May.f k l = some false ∧ recensionlaw23_may.f k l = some false) ∨
  ∃ (b : List Int) (at_ : Int), dir_Encode.f k l = some b ∧ dir_May.f k l = some true ∧ recensionlaw23_may.f k l = some true ∧ dir_Decode.f k b = some (l, 0) ∧ recensionlaw23_bytes.f k l = some b ∧ recensionlaw23_eq.f k l l = some true ∧ dir_Find.f l s = some at_ ∧ atL s l 0 (-1) = at_ ∧ l.length ≤ 100 ∧
  (recensionlaw23_may.f k m = some false ∨ ∃ (bm : List Int) (q : Bool), recensionlaw23_may.f k m = some true ∧ dir_Encode.f k m = some bm ∧ recensionlaw23_eq.f k l m = some q ∧ ((strOfNums bm).toList == (strOfNums b).toList) = q))
noncomputable def recensionlaw23_DirAll.f (k : Nat) (l0 l1 : List S32) (a2 : ByteArray) : Option Bool := @ite _ (DirAllOK k l0 l1 a2) (Classical.propDecidable _) (some true) none
theorem recensionlaw23_DirAll.calls (k : Nat) (A0 : Option Addr) (c0 : Nat) (l0 : List S32) (A1 : Option Addr) (c1 : Nat) (l1 : List S32) (a2 : ByteArray) (r : Bool) (w : World) (hr0 : Kd.C k32 w A0 l0.length l0) (hc0 : l0.length ≤ c0) (hr1 : Kd.C k32 w A1 l1.length l1) (hc1 : l1.length ≤ c1) (hrt : Aside0 (r = true)) (h : recensionlaw23_DirAll.f k l0 l1 a2 = some r) :
  Calls Try.prog 3 #[.slice A0 l0.length c0, .slice A1 l1.length c1, .string a2] w fun e w' => e = .returned (.bool r) ∧ Below w.heap.size w w' := by
 obtain rfl := hrt.out
 by_cases hc : DirAllOK k l0 l1 a2
 ·obtain ⟨hbeg, l, m, s, h1, h2, h3, h⟩ := hc
  rcases h with ⟨h4, h5, h6⟩ | ⟨b, at_, h4, h5, h6, h7, h8, h9, h10, hat, hlen, h⟩
  ·exact da_no k A0 c0 l0 A1 c1 l1 a2 s l m w hr0 hc0 hr1 hc1 hbeg h1 h2 h3 h4 h5 h6
  ·rcases h with h11 | ⟨bm, q, h11, h12, h13, hq⟩
   ·exact da_nom k A0 c0 l0 A1 c1 l1 a2 s l m w hr0 hc0 hr1 hc1 hbeg h1 h2 h3 b at_ h4 h5 h6 h7 h8 h9 h10 hat hlen h11
   ·exact da_yes k A0 c0 l0 A1 c1 l1 a2 s l m w hr0 hc0 hr1 hc1 hbeg h1 h2 h3 b at_ bm q h4 h5 h6 h7 h8 h9 h10 hat hlen h11 h12 h13 hq
 ·unfold recensionlaw23_DirAll.f at h
  rw [if_neg hc] at h
  cases h

end Go.Proofs.Ytloabiheaelbnaa.PDirAll
