-- Written by myprint.py (the prover's own turn of the printer); not trusted: Lean checks it.
import Derived.Test.YtghcagmnhaphbaaPTokenOpsx0
import Derived.Test.YtghcagmnhaphbaaPTokenOpsx1
import Derived.Test.YtghcagmnhaphbaaPTokenOpsx2
import Derived.Test.YtghcagmnhaphbaaPTokenOpsx3
import Derived.Test.YtghcagmnhaphbaaPTokenOpsx4
namespace Go.Proofs.Ytghcagmnhaphbaa.PTokenOps
open Go.RowKit Go.Proofs.YtghcagmnhaphbaaW.PrintWords Go.Proofs.YtghcagmnhaphbaaW.PrintLast Go.Proofs.YtghcagmnhaphbaaW.PrintMore
attribute [local go_sem] str_leq op_leq op_gtr op_geq max2_int min2_int max_two min_two max_three min_three max_four min_four   -- for this text's walks alone
set_option linter.unusedVariables false
set_option linter.unusedSimpArgs false

/-! ### recensionlaw5_TokenOps: function 4 -/
def recensionlaw5_TokenOps.j0 : Nat → Int → ByteArray → Int → Int → Bool → Int → ByteArray → Int → Int → Bool → Int → ByteArray → Int → Int → Bool → Option (Bool)
 | 0, _, _, _, _, _, _, _, _, _, _, _, _, _, _, _ => none
 | k + 1, x276000, x276001, x276002, x276003, x276004, x277000, x277001, x277002, x277003, x277004, x278000, x278001, x278002, x278003, x278004 => (token_Space.f k x278000 x278001 x278002 x278003 x278004 x276000 x276001 x276002 x276003 x276004 x277000 x277001 x277002 x277003 x277004).bind fun t283 => ((recensionref1_Space.f k x278000 x278001 x278002 x278003 x278004 x276000 x276001 x276002 x276003 x276004 x277000 x277001 x277002 x277003 x277004).bind fun t284 => (if (t283 == t284) = true then ((recensionlaw5_word.f (⟨#[121]⟩ : ByteArray)).bind fun bt285 => ((token_Space.f k x278000 x278001 x278002 x278003 x278004 x276000 x276001 x276002 x276003 x276004 bt285.1 bt285.2.1 bt285.2.2.1 bt285.2.2.2.1 bt285.2.2.2.2).bind fun t290 => ((recensionlaw5_word.f (⟨#[121]⟩ : ByteArray)).bind fun bt291 => ((recensionref1_Space.f k x278000 x278001 x278002 x278003 x278004 x276000 x276001 x276002 x276003 x276004 bt291.1 bt291.2.1 bt291.2.2.1 bt291.2.2.2.1 bt291.2.2.2.2).bind fun t296 => (if (t290 == t296) = true then ((recensionlaw5_word.f (⟨#[121]⟩ : ByteArray)).bind fun bt297 => ((token_Space.f k x278000 x278001 x278002 x278003 x278004 bt297.1 bt297.2.1 bt297.2.2.1 bt297.2.2.2.1 bt297.2.2.2.2 x277000 x277001 x277002 x277003 x277004).bind fun t302 => ((recensionlaw5_word.f (⟨#[121]⟩ : ByteArray)).bind fun bt303 => ((recensionref1_Space.f k x278000 x278001 x278002 x278003 x278004 bt303.1 bt303.2.1 bt303.2.2.1 bt303.2.2.2.1 bt303.2.2.2.2 x277000 x277001 x277002 x277003 x277004).bind fun t308 => (if (t302 == t308) = true then ((token_Op.f k x276001).bind fun t309 => (if t309 = true then ((token_Rank.f k x276001).bind fun t310 => ((recensionref1_Rank.f k x276001).bind fun t311 => (some (t310 == t311)))) else (some false))) else (some false)))))) else (some false)))))) else (some false)))
def recensionlaw5_TokenOps.f (k : Nat) (a0 : Int) (a1 : Int) (a2 : Int) (a3 : Bool) : Option (Bool) := (recensionlaw5_begun.f k).bind fun t253 => (if t253 = true then ((some (([(⟨#[40]⟩ : ByteArray), (⟨#[41]⟩ : ByteArray), (⟨#[123]⟩ : ByteArray), (⟨#[125]⟩ : ByteArray), (⟨#[44]⟩ : ByteArray), (⟨#[46]⟩ : ByteArray), (⟨#[58]⟩ : ByteArray), (⟨#[58, 61]⟩ : ByteArray), (⟨#[61]⟩ : ByteArray), (⟨#[61, 61]⟩ : ByteArray), (⟨#[33, 61]⟩ : ByteArray), (⟨#[60]⟩ : ByteArray), (⟨#[43]⟩ : ByteArray), (⟨#[45]⟩ : ByteArray), (⟨#[42]⟩ : ByteArray), (⟨#[33]⟩ : ByteArray), (⟨#[38, 38]⟩ : ByteArray), (⟨#[124, 124]⟩ : ByteArray)] : List ByteArray) : List ByteArray)).bind fun y254 => (if 0 ≤ (Int.tmod (wrap64 ((Int.tmod a0 18) + 18)) 18) then (if (Int.tmod (wrap64 ((Int.tmod a0 18) + 18)) 18) < (y254.length : Int) then ((recensionlaw5_op.f (rdOf ByteArray.empty y254 (Int.tmod (wrap64 ((Int.tmod a0 18) + 18)) 18))).bind fun bt258 => (if 0 ≤ (Int.tmod (wrap64 ((Int.tmod a1 18) + 18)) 18) then (if (Int.tmod (wrap64 ((Int.tmod a1 18) + 18)) 18) < (y254.length : Int) then ((recensionlaw5_op.f (rdOf ByteArray.empty y254 (Int.tmod (wrap64 ((Int.tmod a1 18) + 18)) 18))).bind fun bt264 => (if 0 ≤ (Int.tmod (wrap64 ((Int.tmod a2 18) + 18)) 18) then (if (Int.tmod (wrap64 ((Int.tmod a2 18) + 18)) 18) < (y254.length : Int) then ((recensionlaw5_op.f (rdOf ByteArray.empty y254 (Int.tmod (wrap64 ((Int.tmod a2 18) + 18)) 18))).bind fun bt270 => (if a3 = true then ((recensionlaw5_word.f (⟨#[120]⟩ : ByteArray)).bind fun bt278 => (recensionlaw5_TokenOps.j0 k bt258.1 bt258.2.1 bt258.2.2.1 bt258.2.2.2.1 bt258.2.2.2.2 bt264.1 bt264.2.1 bt264.2.2.1 bt264.2.2.2.1 bt264.2.2.2.2 bt278.1 bt278.2.1 bt278.2.2.1 bt278.2.2.2.1 bt278.2.2.2.2)) else (recensionlaw5_TokenOps.j0 k bt258.1 bt258.2.1 bt258.2.2.1 bt258.2.2.2.1 bt258.2.2.2.2 bt264.1 bt264.2.1 bt264.2.2.1 bt264.2.2.2.1 bt264.2.2.2.2 bt270.1 bt270.2.1 bt270.2.2.1 bt270.2.2.2.1 bt270.2.2.2.2))) else (none)) else (none))) else (none)) else (none))) else (none)) else (none))) else (some false))
theorem recensionlaw5_TokenOps.mono_l : ∀ k, (∀ y0 y1 y2 y3 y4 y5 y6 y7 y8 y9 y10 y11 y12 y13 y14, LeO (recensionlaw5_TokenOps.j0 k y0 y1 y2 y3 y4 y5 y6 y7 y8 y9 y10 y11 y12 y13 y14) (recensionlaw5_TokenOps.j0 (k + 1) y0 y1 y2 y3 y4 y5 y6 y7 y8 y9 y10 y11 y12 y13 y14))
 | 0 => fun _ _ _ _ _ _ _ _ _ _ _ _ _ _ _ r h => by simp [recensionlaw5_TokenOps.j0] at h
 | k + 1 => by
  have ih0 := recensionlaw5_TokenOps.mono_l k
  ·intro y0 y1 y2 y3 y4 y5 y6 y7 y8 y9 y10 y11 y12 y13 y14
   unfold recensionlaw5_TokenOps.j0
   repeat' first
   | (with_reducible exact ih0 _ _ _ _ _ _ _ _ _ _ _ _ _ _ _)
   | (with_reducible exact recensionlaw5_begun.mono _)
   | (with_reducible exact recensionref1_Rank.mono _ _)
   | (with_reducible exact recensionref1_Space.mono _ _ _ _ _ _ _ _ _ _ _ _ _ _ _ _)
   | (with_reducible exact token_Op.mono _ _)
   | (with_reducible exact token_Rank.mono _ _)
   | (with_reducible exact token_Space.mono _ _ _ _ _ _ _ _ _ _ _ _ _ _ _ _)
   | (with_reducible exact LeO.refl _)
   | (with_reducible exact LeO.none _)
   | (with_reducible refine LeO.ite ?_ ?_)
   | (with_reducible refine LeO.bind ?_ (fun _ => ?_))
   | exact ih0 _ _ _ _ _ _ _ _ _ _ _ _ _ _ _
   | exact recensionlaw5_begun.mono _
   | exact recensionref1_Rank.mono _ _
   | exact recensionref1_Space.mono _ _ _ _ _ _ _ _ _ _ _ _ _ _ _ _
   | exact token_Op.mono _ _
   | exact token_Rank.mono _ _
   | exact token_Space.mono _ _ _ _ _ _ _ _ _ _ _ _ _ _ _ _
   | exact LeO.none _
   | refine LeO.ite ?_ ?_
   | refine LeO.bind ?_ (fun _ => ?_)
theorem recensionlaw5_TokenOps.mono : ∀ a0 a1 a2 a3 k, LeO (recensionlaw5_TokenOps.f k a0 a1 a2 a3) (recensionlaw5_TokenOps.f (k + 1) a0 a1 a2 a3) := by
 intro a0 a1 a2 a3 k
 have ih0 := recensionlaw5_TokenOps.mono_l k
 unfold recensionlaw5_TokenOps.f
 repeat' first
   | (with_reducible exact ih0 _ _ _ _ _ _ _ _ _ _ _ _ _ _ _)
   | (with_reducible exact recensionlaw5_begun.mono _)
   | (with_reducible exact recensionref1_Rank.mono _ _)
   | (with_reducible exact recensionref1_Space.mono _ _ _ _ _ _ _ _ _ _ _ _ _ _ _ _)
   | (with_reducible exact token_Op.mono _ _)
   | (with_reducible exact token_Rank.mono _ _)
   | (with_reducible exact token_Space.mono _ _ _ _ _ _ _ _ _ _ _ _ _ _ _ _)
   | (with_reducible exact LeO.refl _)
   | (with_reducible exact LeO.none _)
   | (with_reducible refine LeO.ite ?_ ?_)
   | (with_reducible refine LeO.bind ?_ (fun _ => ?_))
   | exact ih0 _ _ _ _ _ _ _ _ _ _ _ _ _ _ _
   | exact recensionlaw5_begun.mono _
   | exact recensionref1_Rank.mono _ _
   | exact recensionref1_Space.mono _ _ _ _ _ _ _ _ _ _ _ _ _ _ _ _
   | exact token_Op.mono _ _
   | exact token_Rank.mono _ _
   | exact token_Space.mono _ _ _ _ _ _ _ _ _ _ _ _ _ _ _ _
   | exact LeO.none _
   | refine LeO.ite ?_ ?_
   | refine LeO.bind ?_ (fun _ => ?_)
def recensionlaw5_TokenOps.T5 : Bool × List (List Nat × List Nat) := (true, [([], []), ([], []), ([1], [1]), ([2], [2]), ([3], [3]), ([0, 4], [0, 4]), ([5], [5]), ([6], [6]), ([], []), ([], []), ([9], [9]), ([10], [10]), ([11], [11]), ([8, 12], [8, 12]), ([13], [13]), ([14, 7], [14]), ([], []), ([], []), ([17], [17]), ([18], [18]), ([19], [19]), ([16, 20], [16, 20]), ([21], [21]), ([22, 15], [22]), ([], []), ([], []), ([], []), ([24, 7, 23, 0, 1, 2, 3, 4, 5, 6, 7, 24, 25, 26], [7, 24]), ([25, 15, 27, 0, 1, 2, 3, 4, 5, 6, 7, 8, 9, 10, 11, 12, 13, 14, 15, 24, 25, 26, 27], [15, 25]), ([26, 23, 28, 0, 1, 2, 3, 4, 5, 6, 7, 8, 9, 10, 11, 12, 13, 14, 15, 16, 17, 18, 19, 20, 21, 22, 23, 24, 25, 26, 27, 28], [23, 26])])
def recensionlaw5_TokenOps.B5 : List Nat := [0, 0, 2, 6, 14, 31, 63, 127, 0, 0, 512, 1536, 3584, 7936, 16128, 32767, 0, 0, 131072, 393216, 917504, 2031616, 4128768, 8388607, 0, 0, 0, 134217727, 268435455, 536870911]
theorem recensionlaw5_TokenOps.tab5 : rtab .any (opsOf Try.f4 5) = recensionlaw5_TokenOps.T5 := by kernel_rfl
theorem recensionlaw5_TokenOps.bits5 : waitsOk recensionlaw5_TokenOps.T5.2 recensionlaw5_TokenOps.B5 = true := by kernel_rfl
def recensionlaw5_TokenOps.T8 : Bool × List (List Nat × List Nat) := (true, [([], []), ([], []), ([], []), ([0, 1, 2], [0, 1, 2]), ([], []), ([], []), ([], []), ([4, 5, 6, 3], [4, 5, 6]), ([3, 7], [3, 7]), ([8, 7], [8]), ([9], [9]), ([9], [9]), ([9, 9], [9]), ([10, 11, 12, 12, 9], [9, 10, 11, 12]), ([9], [9]), ([9], [9]), ([13, 9], [9]), ([14, 15, 16, 16, 9], [9, 14, 15, 16]), ([13, 17, 9], [9, 13, 17]), ([9, 18], [9, 18]), ([19, 17], [19]), ([20], [20]), ([20, 20], [20]), ([20], [20]), ([21, 22, 23, 22, 20], [20, 21, 22, 23]), ([20], [20]), ([24, 20], [20]), ([20], [20]), ([25, 26, 27, 26, 20], [20, 25, 26, 27]), ([24, 28, 20], [20, 24, 28]), ([20, 29], [20, 29]), ([30, 28], [30]), ([31], [31]), ([32, 31], [31, 32]), ([33, 31, 31], [31, 33]), ([31, 34], [31, 34]), ([35, 34], [35]), ([36], [36]), ([37, 36], [36, 37]), ([38, 36, 36], [36, 38]), ([36], [36]), ([40, 36], [36, 40]), ([41, 39, 36], [36, 41]), ([39, 42, 36], [36, 39, 42]), ([36, 43], [36, 43]), ([44, 42, 0, 1, 2, 3, 4, 5, 6, 7, 8, 9, 10, 11, 12, 13, 14, 15, 16, 17, 18, 19, 20, 21, 22, 23, 24, 25, 26, 27, 28, 29, 30, 31, 32, 33, 34, 35, 36, 37, 38, 39, 40, 41, 42, 43, 44], [44])])
def recensionlaw5_TokenOps.B8 : List Nat := [0, 0, 0, 7, 0, 0, 0, 127, 255, 511, 1023, 1023, 1023, 8191, 1023, 1023, 16383, 131071, 262143, 524287, 1048575, 2097151, 2097151, 2097151, 16777215, 2097151, 33554431, 2097151, 268435455, 536870911, 1073741823, 2147483647, 4294967295, 8589934591, 17179869183, 34359738367, 68719476735, 137438953471, 274877906943, 549755813887, 137438953471, 1236950581247, 4398046511103, 8796093022207, 17592186044415, 35184372088831]
theorem recensionlaw5_TokenOps.tab8 : rtab .any (opsOf Try.f4 8) = recensionlaw5_TokenOps.T8 := by kernel_rfl
theorem recensionlaw5_TokenOps.bits8 : waitsOk recensionlaw5_TokenOps.T8.2 recensionlaw5_TokenOps.B8 = true := by kernel_rfl
set_option maxHeartbeats 8000000 in
set_option maxRecDepth 100000 in
theorem recensionlaw5_TokenOps.calls (k : Nat) (a0 : Int) (a1 : Int) (a2 : Int) (a3 : Bool) (r : Bool) (w : World) (hrt : Aside0 (r = true)) (h : recensionlaw5_TokenOps.f k a0 a1 a2 a3 = some r) :
  Calls Try.prog 4 #[.int .i64 a0, .int .i64 a1, .int .i64 a2, .bool a3] w fun e w' => e = .returned (.bool r) ∧ Below w.heap.size w w' := by
 have hu23 := Try.underlying23
 have HB := Aside0.mk (Below.refl w.heap.size w)
 have H : ((recensionlaw5_begun.f k).bind fun t253 => (if t253 = true then ((some (([(⟨#[40]⟩ : ByteArray), (⟨#[41]⟩ : ByteArray), (⟨#[123]⟩ : ByteArray), (⟨#[125]⟩ : ByteArray), (⟨#[44]⟩ : ByteArray), (⟨#[46]⟩ : ByteArray), (⟨#[58]⟩ : ByteArray), (⟨#[58, 61]⟩ : ByteArray), (⟨#[61]⟩ : ByteArray), (⟨#[61, 61]⟩ : ByteArray), (⟨#[33, 61]⟩ : ByteArray), (⟨#[60]⟩ : ByteArray), (⟨#[43]⟩ : ByteArray), (⟨#[45]⟩ : ByteArray), (⟨#[42]⟩ : ByteArray), (⟨#[33]⟩ : ByteArray), (⟨#[38, 38]⟩ : ByteArray), (⟨#[124, 124]⟩ : ByteArray)] : List ByteArray) : List ByteArray)).bind fun y254 => (if 0 ≤ (Int.tmod (wrap64 ((Int.tmod a0 18) + 18)) 18) then (if (Int.tmod (wrap64 ((Int.tmod a0 18) + 18)) 18) < (y254.length : Int) then ((recensionlaw5_op.f (rdOf ByteArray.empty y254 (Int.tmod (wrap64 ((Int.tmod a0 18) + 18)) 18))).bind fun bt258 => (if 0 ≤ (Int.tmod (wrap64 ((Int.tmod a1 18) + 18)) 18) then (if (Int.tmod (wrap64 ((Int.tmod a1 18) + 18)) 18) < (y254.length : Int) then ((recensionlaw5_op.f (rdOf ByteArray.empty y254 (Int.tmod (wrap64 ((Int.tmod a1 18) + 18)) 18))).bind fun bt264 => (if 0 ≤ (Int.tmod (wrap64 ((Int.tmod a2 18) + 18)) 18) then (if (Int.tmod (wrap64 ((Int.tmod a2 18) + 18)) 18) < (y254.length : Int) then ((recensionlaw5_op.f (rdOf ByteArray.empty y254 (Int.tmod (wrap64 ((Int.tmod a2 18) + 18)) 18))).bind fun bt270 => (if a3 = true then ((recensionlaw5_word.f (⟨#[120]⟩ : ByteArray)).bind fun bt278 => (recensionlaw5_TokenOps.j0 k bt258.1 bt258.2.1 bt258.2.2.1 bt258.2.2.2.1 bt258.2.2.2.2 bt264.1 bt264.2.1 bt264.2.2.1 bt264.2.2.2.1 bt264.2.2.2.2 bt278.1 bt278.2.1 bt278.2.2.1 bt278.2.2.2.1 bt278.2.2.2.2)) else (recensionlaw5_TokenOps.j0 k bt258.1 bt258.2.1 bt258.2.2.1 bt258.2.2.2.1 bt258.2.2.2.2 bt264.1 bt264.2.1 bt264.2.2.1 bt264.2.2.2.1 bt264.2.2.2.2 bt270.1 bt270.2.1 bt270.2.2.1 bt270.2.2.2.1 bt270.2.2.2.2))) else (none)) else (none))) else (none)) else (none))) else (none)) else (none))) else (some false))) = some r := h
 clear h
 replace H := Option.bind_eq_some_iff.mp H
 obtain ⟨t253, A50, H⟩ := H
 replace H : (if t253 = true then ((some (([(⟨#[40]⟩ : ByteArray), (⟨#[41]⟩ : ByteArray), (⟨#[123]⟩ : ByteArray), (⟨#[125]⟩ : ByteArray), (⟨#[44]⟩ : ByteArray), (⟨#[46]⟩ : ByteArray), (⟨#[58]⟩ : ByteArray), (⟨#[58, 61]⟩ : ByteArray), (⟨#[61]⟩ : ByteArray), (⟨#[61, 61]⟩ : ByteArray), (⟨#[33, 61]⟩ : ByteArray), (⟨#[60]⟩ : ByteArray), (⟨#[43]⟩ : ByteArray), (⟨#[45]⟩ : ByteArray), (⟨#[42]⟩ : ByteArray), (⟨#[33]⟩ : ByteArray), (⟨#[38, 38]⟩ : ByteArray), (⟨#[124, 124]⟩ : ByteArray)] : List ByteArray) : List ByteArray)).bind fun y254 => (if 0 ≤ (Int.tmod (wrap64 ((Int.tmod a0 18) + 18)) 18) then (if (Int.tmod (wrap64 ((Int.tmod a0 18) + 18)) 18) < (y254.length : Int) then ((recensionlaw5_op.f (rdOf ByteArray.empty y254 (Int.tmod (wrap64 ((Int.tmod a0 18) + 18)) 18))).bind fun bt258 => (if 0 ≤ (Int.tmod (wrap64 ((Int.tmod a1 18) + 18)) 18) then (if (Int.tmod (wrap64 ((Int.tmod a1 18) + 18)) 18) < (y254.length : Int) then ((recensionlaw5_op.f (rdOf ByteArray.empty y254 (Int.tmod (wrap64 ((Int.tmod a1 18) + 18)) 18))).bind fun bt264 => (if 0 ≤ (Int.tmod (wrap64 ((Int.tmod a2 18) + 18)) 18) then (if (Int.tmod (wrap64 ((Int.tmod a2 18) + 18)) 18) < (y254.length : Int) then ((recensionlaw5_op.f (rdOf ByteArray.empty y254 (Int.tmod (wrap64 ((Int.tmod a2 18) + 18)) 18))).bind fun bt270 => (if a3 = true then ((recensionlaw5_word.f (⟨#[120]⟩ : ByteArray)).bind fun bt278 => (recensionlaw5_TokenOps.j0 k bt258.1 bt258.2.1 bt258.2.2.1 bt258.2.2.2.1 bt258.2.2.2.2 bt264.1 bt264.2.1 bt264.2.2.1 bt264.2.2.2.1 bt264.2.2.2.2 bt278.1 bt278.2.1 bt278.2.2.1 bt278.2.2.2.1 bt278.2.2.2.2)) else (recensionlaw5_TokenOps.j0 k bt258.1 bt258.2.1 bt258.2.2.1 bt258.2.2.2.1 bt258.2.2.2.2 bt264.1 bt264.2.1 bt264.2.2.1 bt264.2.2.2.1 bt264.2.2.2.2 bt270.1 bt270.2.1 bt270.2.2.1 bt270.2.2.2.1 bt270.2.2.2.2))) else (none)) else (none))) else (none)) else (none))) else (none)) else (none))) else (some false)) = some r := H
 have A5 := Aside0.mk A50
 clear A50
 by_cases c6 : t253 = true
 ·subst c6
  have H1 : ((some (([(⟨#[40]⟩ : ByteArray), (⟨#[41]⟩ : ByteArray), (⟨#[123]⟩ : ByteArray), (⟨#[125]⟩ : ByteArray), (⟨#[44]⟩ : ByteArray), (⟨#[46]⟩ : ByteArray), (⟨#[58]⟩ : ByteArray), (⟨#[58, 61]⟩ : ByteArray), (⟨#[61]⟩ : ByteArray), (⟨#[61, 61]⟩ : ByteArray), (⟨#[33, 61]⟩ : ByteArray), (⟨#[60]⟩ : ByteArray), (⟨#[43]⟩ : ByteArray), (⟨#[45]⟩ : ByteArray), (⟨#[42]⟩ : ByteArray), (⟨#[33]⟩ : ByteArray), (⟨#[38, 38]⟩ : ByteArray), (⟨#[124, 124]⟩ : ByteArray)] : List ByteArray) : List ByteArray)).bind fun y254 => (if 0 ≤ (Int.tmod (wrap64 ((Int.tmod a0 18) + 18)) 18) then (if (Int.tmod (wrap64 ((Int.tmod a0 18) + 18)) 18) < (y254.length : Int) then ((recensionlaw5_op.f (rdOf ByteArray.empty y254 (Int.tmod (wrap64 ((Int.tmod a0 18) + 18)) 18))).bind fun bt258 => (if 0 ≤ (Int.tmod (wrap64 ((Int.tmod a1 18) + 18)) 18) then (if (Int.tmod (wrap64 ((Int.tmod a1 18) + 18)) 18) < (y254.length : Int) then ((recensionlaw5_op.f (rdOf ByteArray.empty y254 (Int.tmod (wrap64 ((Int.tmod a1 18) + 18)) 18))).bind fun bt264 => (if 0 ≤ (Int.tmod (wrap64 ((Int.tmod a2 18) + 18)) 18) then (if (Int.tmod (wrap64 ((Int.tmod a2 18) + 18)) 18) < (y254.length : Int) then ((recensionlaw5_op.f (rdOf ByteArray.empty y254 (Int.tmod (wrap64 ((Int.tmod a2 18) + 18)) 18))).bind fun bt270 => (if a3 = true then ((recensionlaw5_word.f (⟨#[120]⟩ : ByteArray)).bind fun bt278 => (recensionlaw5_TokenOps.j0 k bt258.1 bt258.2.1 bt258.2.2.1 bt258.2.2.2.1 bt258.2.2.2.2 bt264.1 bt264.2.1 bt264.2.2.1 bt264.2.2.2.1 bt264.2.2.2.2 bt278.1 bt278.2.1 bt278.2.2.1 bt278.2.2.2.1 bt278.2.2.2.2)) else (recensionlaw5_TokenOps.j0 k bt258.1 bt258.2.1 bt258.2.2.1 bt258.2.2.2.1 bt258.2.2.2.2 bt264.1 bt264.2.1 bt264.2.2.1 bt264.2.2.2.1 bt264.2.2.2.2 bt270.1 bt270.2.1 bt270.2.2.1 bt270.2.2.2.1 bt270.2.2.2.2))) else (none)) else (none))) else (none)) else (none))) else (none)) else (none))) = some r := by rw [if_pos rfl] at H; exact H
  clear H
  have H := H1
  clear H1
  obtain ⟨y254, hy254⟩ : ∃ y_ : List ByteArray, y_ = (([(⟨#[40]⟩ : ByteArray), (⟨#[41]⟩ : ByteArray), (⟨#[123]⟩ : ByteArray), (⟨#[125]⟩ : ByteArray), (⟨#[44]⟩ : ByteArray), (⟨#[46]⟩ : ByteArray), (⟨#[58]⟩ : ByteArray), (⟨#[58, 61]⟩ : ByteArray), (⟨#[61]⟩ : ByteArray), (⟨#[61, 61]⟩ : ByteArray), (⟨#[33, 61]⟩ : ByteArray), (⟨#[60]⟩ : ByteArray), (⟨#[43]⟩ : ByteArray), (⟨#[45]⟩ : ByteArray), (⟨#[42]⟩ : ByteArray), (⟨#[33]⟩ : ByteArray), (⟨#[38, 38]⟩ : ByteArray), (⟨#[124, 124]⟩ : ByteArray)] : List ByteArray)) := ⟨_, rfl⟩
  replace H : (if 0 ≤ (Int.tmod (wrap64 ((Int.tmod a0 18) + 18)) 18) then (if (Int.tmod (wrap64 ((Int.tmod a0 18) + 18)) 18) < (y254.length : Int) then ((recensionlaw5_op.f (rdOf ByteArray.empty y254 (Int.tmod (wrap64 ((Int.tmod a0 18) + 18)) 18))).bind fun bt258 => (if 0 ≤ (Int.tmod (wrap64 ((Int.tmod a1 18) + 18)) 18) then (if (Int.tmod (wrap64 ((Int.tmod a1 18) + 18)) 18) < (y254.length : Int) then ((recensionlaw5_op.f (rdOf ByteArray.empty y254 (Int.tmod (wrap64 ((Int.tmod a1 18) + 18)) 18))).bind fun bt264 => (if 0 ≤ (Int.tmod (wrap64 ((Int.tmod a2 18) + 18)) 18) then (if (Int.tmod (wrap64 ((Int.tmod a2 18) + 18)) 18) < (y254.length : Int) then ((recensionlaw5_op.f (rdOf ByteArray.empty y254 (Int.tmod (wrap64 ((Int.tmod a2 18) + 18)) 18))).bind fun bt270 => (if a3 = true then ((recensionlaw5_word.f (⟨#[120]⟩ : ByteArray)).bind fun bt278 => (recensionlaw5_TokenOps.j0 k bt258.1 bt258.2.1 bt258.2.2.1 bt258.2.2.2.1 bt258.2.2.2.2 bt264.1 bt264.2.1 bt264.2.2.1 bt264.2.2.2.1 bt264.2.2.2.2 bt278.1 bt278.2.1 bt278.2.2.1 bt278.2.2.2.1 bt278.2.2.2.2)) else (recensionlaw5_TokenOps.j0 k bt258.1 bt258.2.1 bt258.2.2.1 bt258.2.2.2.1 bt258.2.2.2.2 bt264.1 bt264.2.1 bt264.2.2.1 bt264.2.2.2.1 bt264.2.2.2.2 bt270.1 bt270.2.1 bt270.2.2.1 bt270.2.2.2.1 bt270.2.2.2.2))) else (none)) else (none))) else (none)) else (none))) else (none)) else (none)) = some r := by first | (rw [hy254]; with_reducible exact H) | (have H2_ := (Option.bind_some _ _).symm.trans H; rw [hy254]; with_reducible exact H2_) | (have H2_ := (Option.bind_some _ _).symm.trans H; with_reducible exact H2_) | with_reducible exact H | (rw [hy254]; exact H) | exact H
  have Ny254 := Aside0.mk hy254
  clear hy254
  obtain ⟨ji7, hji7⟩ : ∃ j_ : Int, (Int.tmod (wrap64 ((Int.tmod a0 18) + 18)) 18) = j_ := ⟨_, rfl⟩
  replace H : (if 0 ≤ (ji7) then (if (ji7) < (y254.length : Int) then ((recensionlaw5_op.f (rdOf ByteArray.empty y254 (ji7))).bind fun bt258 => (if 0 ≤ (Int.tmod (wrap64 ((Int.tmod a1 18) + 18)) 18) then (if (Int.tmod (wrap64 ((Int.tmod a1 18) + 18)) 18) < (y254.length : Int) then ((recensionlaw5_op.f (rdOf ByteArray.empty y254 (Int.tmod (wrap64 ((Int.tmod a1 18) + 18)) 18))).bind fun bt264 => (if 0 ≤ (Int.tmod (wrap64 ((Int.tmod a2 18) + 18)) 18) then (if (Int.tmod (wrap64 ((Int.tmod a2 18) + 18)) 18) < (y254.length : Int) then ((recensionlaw5_op.f (rdOf ByteArray.empty y254 (Int.tmod (wrap64 ((Int.tmod a2 18) + 18)) 18))).bind fun bt270 => (if a3 = true then ((recensionlaw5_word.f (⟨#[120]⟩ : ByteArray)).bind fun bt278 => (recensionlaw5_TokenOps.j0 k bt258.1 bt258.2.1 bt258.2.2.1 bt258.2.2.2.1 bt258.2.2.2.2 bt264.1 bt264.2.1 bt264.2.2.1 bt264.2.2.2.1 bt264.2.2.2.2 bt278.1 bt278.2.1 bt278.2.2.1 bt278.2.2.2.1 bt278.2.2.2.2)) else (recensionlaw5_TokenOps.j0 k bt258.1 bt258.2.1 bt258.2.2.1 bt258.2.2.2.1 bt258.2.2.2.2 bt264.1 bt264.2.1 bt264.2.2.1 bt264.2.2.2.1 bt264.2.2.2.2 bt270.1 bt270.2.1 bt270.2.2.1 bt270.2.2.2.1 bt270.2.2.2.2))) else (none)) else (none))) else (none)) else (none))) else (none)) else (none)) = some r := by first | (rw [hji7] at H; exact H) | (simp only [hji7] at H ⊢; exact H)
  (try rw [hji7] at A5)
  by_cases c8 : 0 ≤ (ji7)
  ·rw [if_pos c8] at H
   have c8b0 : decide (0 ≤ (ji7)) = true := decide_eq_true c8
   clear c8
   by_cases c9 : (ji7) < (y254.length : Int)
   ·rw [if_pos c9] at H
    have c9b0 : decide ((ji7) < (y254.length : Int)) = true := decide_eq_true c9
    clear c9
    replace H := Option.bind_eq_some_iff.mp H
    obtain ⟨⟨t258, t259, t260, t261, t262⟩, A100, H⟩ := H
    replace H : (if 0 ≤ (Int.tmod (wrap64 ((Int.tmod a1 18) + 18)) 18) then (if (Int.tmod (wrap64 ((Int.tmod a1 18) + 18)) 18) < (y254.length : Int) then ((recensionlaw5_op.f (rdOf ByteArray.empty y254 (Int.tmod (wrap64 ((Int.tmod a1 18) + 18)) 18))).bind fun bt264 => (if 0 ≤ (Int.tmod (wrap64 ((Int.tmod a2 18) + 18)) 18) then (if (Int.tmod (wrap64 ((Int.tmod a2 18) + 18)) 18) < (y254.length : Int) then ((recensionlaw5_op.f (rdOf ByteArray.empty y254 (Int.tmod (wrap64 ((Int.tmod a2 18) + 18)) 18))).bind fun bt270 => (if a3 = true then ((recensionlaw5_word.f (⟨#[120]⟩ : ByteArray)).bind fun bt278 => (recensionlaw5_TokenOps.j0 k t258 t259 t260 t261 t262 bt264.1 bt264.2.1 bt264.2.2.1 bt264.2.2.2.1 bt264.2.2.2.2 bt278.1 bt278.2.1 bt278.2.2.1 bt278.2.2.2.1 bt278.2.2.2.2)) else (recensionlaw5_TokenOps.j0 k t258 t259 t260 t261 t262 bt264.1 bt264.2.1 bt264.2.2.1 bt264.2.2.2.1 bt264.2.2.2.2 bt270.1 bt270.2.1 bt270.2.2.1 bt270.2.2.2.1 bt270.2.2.2.2))) else (none)) else (none))) else (none)) else (none)) = some r := H
    have A10 := Aside0.mk A100
    clear A100
    obtain ⟨ji11, hji11⟩ : ∃ j_ : Int, (Int.tmod (wrap64 ((Int.tmod a1 18) + 18)) 18) = j_ := ⟨_, rfl⟩
    replace H : (if 0 ≤ (ji11) then (if (ji11) < (y254.length : Int) then ((recensionlaw5_op.f (rdOf ByteArray.empty y254 (ji11))).bind fun bt264 => (if 0 ≤ (Int.tmod (wrap64 ((Int.tmod a2 18) + 18)) 18) then (if (Int.tmod (wrap64 ((Int.tmod a2 18) + 18)) 18) < (y254.length : Int) then ((recensionlaw5_op.f (rdOf ByteArray.empty y254 (Int.tmod (wrap64 ((Int.tmod a2 18) + 18)) 18))).bind fun bt270 => (if a3 = true then ((recensionlaw5_word.f (⟨#[120]⟩ : ByteArray)).bind fun bt278 => (recensionlaw5_TokenOps.j0 k t258 t259 t260 t261 t262 bt264.1 bt264.2.1 bt264.2.2.1 bt264.2.2.2.1 bt264.2.2.2.2 bt278.1 bt278.2.1 bt278.2.2.1 bt278.2.2.2.1 bt278.2.2.2.2)) else (recensionlaw5_TokenOps.j0 k t258 t259 t260 t261 t262 bt264.1 bt264.2.1 bt264.2.2.1 bt264.2.2.2.1 bt264.2.2.2.2 bt270.1 bt270.2.1 bt270.2.2.1 bt270.2.2.2.1 bt270.2.2.2.2))) else (none)) else (none))) else (none)) else (none)) = some r := by first | (rw [hji11] at H; exact H) | (simp only [hji11] at H ⊢; exact H)
    (try rw [hji11] at A5)
    (try rw [hji11] at A10)
    by_cases c12 : 0 ≤ (ji11)
    ·rw [if_pos c12] at H
     have c12b0 : decide (0 ≤ (ji11)) = true := decide_eq_true c12
     clear c12
     by_cases c13 : (ji11) < (y254.length : Int)
     ·rw [if_pos c13] at H
      have c13b0 : decide ((ji11) < (y254.length : Int)) = true := decide_eq_true c13
      clear c13
      replace H := Option.bind_eq_some_iff.mp H
      obtain ⟨⟨t264, t265, t266, t267, t268⟩, A140, H⟩ := H
      replace H : (if 0 ≤ (Int.tmod (wrap64 ((Int.tmod a2 18) + 18)) 18) then (if (Int.tmod (wrap64 ((Int.tmod a2 18) + 18)) 18) < (y254.length : Int) then ((recensionlaw5_op.f (rdOf ByteArray.empty y254 (Int.tmod (wrap64 ((Int.tmod a2 18) + 18)) 18))).bind fun bt270 => (if a3 = true then ((recensionlaw5_word.f (⟨#[120]⟩ : ByteArray)).bind fun bt278 => (recensionlaw5_TokenOps.j0 k t258 t259 t260 t261 t262 t264 t265 t266 t267 t268 bt278.1 bt278.2.1 bt278.2.2.1 bt278.2.2.2.1 bt278.2.2.2.2)) else (recensionlaw5_TokenOps.j0 k t258 t259 t260 t261 t262 t264 t265 t266 t267 t268 bt270.1 bt270.2.1 bt270.2.2.1 bt270.2.2.2.1 bt270.2.2.2.2))) else (none)) else (none)) = some r := H
      have A14 := Aside0.mk A140
      clear A140
      obtain ⟨ji15, hji15⟩ : ∃ j_ : Int, (Int.tmod (wrap64 ((Int.tmod a2 18) + 18)) 18) = j_ := ⟨_, rfl⟩
      replace H : (if 0 ≤ (ji15) then (if (ji15) < (y254.length : Int) then ((recensionlaw5_op.f (rdOf ByteArray.empty y254 (ji15))).bind fun bt270 => (if a3 = true then ((recensionlaw5_word.f (⟨#[120]⟩ : ByteArray)).bind fun bt278 => (recensionlaw5_TokenOps.j0 k t258 t259 t260 t261 t262 t264 t265 t266 t267 t268 bt278.1 bt278.2.1 bt278.2.2.1 bt278.2.2.2.1 bt278.2.2.2.2)) else (recensionlaw5_TokenOps.j0 k t258 t259 t260 t261 t262 t264 t265 t266 t267 t268 bt270.1 bt270.2.1 bt270.2.2.1 bt270.2.2.2.1 bt270.2.2.2.2))) else (none)) else (none)) = some r := by first | (rw [hji15] at H; exact H) | (simp only [hji15] at H ⊢; exact H)
      (try rw [hji15] at A5)
      (try rw [hji15] at A10)
      (try rw [hji15] at A14)
      by_cases c16 : 0 ≤ (ji15)
      ·rw [if_pos c16] at H
       have c16b0 : decide (0 ≤ (ji15)) = true := decide_eq_true c16
       clear c16
       by_cases c17 : (ji15) < (y254.length : Int)
       ·rw [if_pos c17] at H
        have c17b0 : decide ((ji15) < (y254.length : Int)) = true := decide_eq_true c17
        clear c17
        replace H := Option.bind_eq_some_iff.mp H
        obtain ⟨⟨t270, t271, t272, t273, t274⟩, A180, H⟩ := H
        replace H : (if a3 = true then ((recensionlaw5_word.f (⟨#[120]⟩ : ByteArray)).bind fun bt278 => (recensionlaw5_TokenOps.j0 k t258 t259 t260 t261 t262 t264 t265 t266 t267 t268 bt278.1 bt278.2.1 bt278.2.2.1 bt278.2.2.2.1 bt278.2.2.2.2)) else (recensionlaw5_TokenOps.j0 k t258 t259 t260 t261 t262 t264 t265 t266 t267 t268 t270 t271 t272 t273 t274)) = some r := H
        have A18 := Aside0.mk A180
        clear A180
        have HC19 := Aside0.mk H
        clear H
        go_enter Try.func4, Try.ntmps4
        try go_wp2_with (first | ((with_reducible refine gate_callee (f := 6) rfl ?_); refine goesL_ (some 14) rfl rfl Try.func6 (by kernel_rfl) rfl #[] rfl (by (try simp only [List.map_toArray, List.map_cons, List.map_nil]); first | done | rfl | (simp only [List.length_drop, List.length_take]; rfl) | (simp only [wrap64_wl, wrap64_wr]; rfl)) ?_; (with_reducible refine (recensionlaw5_begun.calls k  true _ A5.out).mono ?_); rintro e w20 ⟨rfl, hb⟩; refine ⟨_, rfl, ?_⟩; have n0_ := Aside0.mk (below_step (by repeat (first | (with_reducible first | exact HB.out | apply below_alloc | apply pw_below_drewN | apply below_drew1) | exact HB.out)) hb); clear HB; have HB := n0_; clear n0_; (try clear hb); (try clear hb2); (try clear hk); (try clear hi)) | ((with_reducible refine gate_dst (N := 17) rfl ?_); refine Kd.R_lit Kd.string _ 9 ?hg (N := 17) ?hd (xs := ([(⟨#[40]⟩ : ByteArray), (⟨#[41]⟩ : ByteArray), (⟨#[123]⟩ : ByteArray), (⟨#[125]⟩ : ByteArray), (⟨#[44]⟩ : ByteArray), (⟨#[46]⟩ : ByteArray), (⟨#[58]⟩ : ByteArray), (⟨#[58, 61]⟩ : ByteArray), (⟨#[61]⟩ : ByteArray), (⟨#[61, 61]⟩ : ByteArray), (⟨#[33, 61]⟩ : ByteArray), (⟨#[60]⟩ : ByteArray), (⟨#[43]⟩ : ByteArray), (⟨#[45]⟩ : ByteArray), (⟨#[42]⟩ : ByteArray), (⟨#[33]⟩ : ByteArray), (⟨#[38, 38]⟩ : ByteArray), (⟨#[124, 124]⟩ : ByteArray)] : List ByteArray)) (inner := [.string (⟨#[40]⟩ : ByteArray), .string (⟨#[41]⟩ : ByteArray), .string (⟨#[123]⟩ : ByteArray), .string (⟨#[125]⟩ : ByteArray), .string (⟨#[44]⟩ : ByteArray), .string (⟨#[46]⟩ : ByteArray), .string (⟨#[58]⟩ : ByteArray), .string (⟨#[58, 61]⟩ : ByteArray), .string (⟨#[61]⟩ : ByteArray), .string (⟨#[61, 61]⟩ : ByteArray), .string (⟨#[33, 61]⟩ : ByteArray), .string (⟨#[60]⟩ : ByteArray), .string (⟨#[43]⟩ : ByteArray), .string (⟨#[45]⟩ : ByteArray), .string (⟨#[42]⟩ : ByteArray), .string (⟨#[33]⟩ : ByteArray), .string (⟨#[38, 38]⟩ : ByteArray), .string (⟨#[124, 124]⟩ : ByteArray)]) (ok := fun _ => True) (okp := fun _ => True) ?hr ?hp (fun _ hk => hk) trivial (Below.refl _ _) (Nat.le_refl _) (by simp) ?_; (case hd => rfl); (case hg => rfl); (case hr => first | (go_simp; done) | (go_simp; rfl)); (case hp => exact (Reps.one (show Kd.M Kd.string _ _ _ (⟨#[40]⟩ : ByteArray) [.string (⟨#[40]⟩ : ByteArray)] from rfl) (Reps.one (show Kd.M Kd.string _ _ _ (⟨#[41]⟩ : ByteArray) [.string (⟨#[41]⟩ : ByteArray)] from rfl) (Reps.one (show Kd.M Kd.string _ _ _ (⟨#[123]⟩ : ByteArray) [.string (⟨#[123]⟩ : ByteArray)] from rfl) (Reps.one (show Kd.M Kd.string _ _ _ (⟨#[125]⟩ : ByteArray) [.string (⟨#[125]⟩ : ByteArray)] from rfl) (Reps.one (show Kd.M Kd.string _ _ _ (⟨#[44]⟩ : ByteArray) [.string (⟨#[44]⟩ : ByteArray)] from rfl) (Reps.one (show Kd.M Kd.string _ _ _ (⟨#[46]⟩ : ByteArray) [.string (⟨#[46]⟩ : ByteArray)] from rfl) (Reps.one (show Kd.M Kd.string _ _ _ (⟨#[58]⟩ : ByteArray) [.string (⟨#[58]⟩ : ByteArray)] from rfl) (Reps.one (show Kd.M Kd.string _ _ _ (⟨#[58, 61]⟩ : ByteArray) [.string (⟨#[58, 61]⟩ : ByteArray)] from rfl) (Reps.one (show Kd.M Kd.string _ _ _ (⟨#[61]⟩ : ByteArray) [.string (⟨#[61]⟩ : ByteArray)] from rfl) (Reps.one (show Kd.M Kd.string _ _ _ (⟨#[61, 61]⟩ : ByteArray) [.string (⟨#[61, 61]⟩ : ByteArray)] from rfl) (Reps.one (show Kd.M Kd.string _ _ _ (⟨#[33, 61]⟩ : ByteArray) [.string (⟨#[33, 61]⟩ : ByteArray)] from rfl) (Reps.one (show Kd.M Kd.string _ _ _ (⟨#[60]⟩ : ByteArray) [.string (⟨#[60]⟩ : ByteArray)] from rfl) (Reps.one (show Kd.M Kd.string _ _ _ (⟨#[43]⟩ : ByteArray) [.string (⟨#[43]⟩ : ByteArray)] from rfl) (Reps.one (show Kd.M Kd.string _ _ _ (⟨#[45]⟩ : ByteArray) [.string (⟨#[45]⟩ : ByteArray)] from rfl) (Reps.one (show Kd.M Kd.string _ _ _ (⟨#[42]⟩ : ByteArray) [.string (⟨#[42]⟩ : ByteArray)] from rfl) (Reps.one (show Kd.M Kd.string _ _ _ (⟨#[33]⟩ : ByteArray) [.string (⟨#[33]⟩ : ByteArray)] from rfl) (Reps.one (show Kd.M Kd.string _ _ _ (⟨#[38, 38]⟩ : ByteArray) [.string (⟨#[38, 38]⟩ : ByteArray)] from rfl) (Reps.one (show Kd.M Kd.string _ _ _ (⟨#[124, 124]⟩ : ByteArray) [.string (⟨#[124, 124]⟩ : ByteArray)] from rfl) (Reps.none _ _)))))))))))))))))))); intro v255 w21 ho22 hb hg_ hnew_; clear hg_ hnew_; (first | rw [← Ny254.out] at ho22 | (simp only [Int.reduceToNat] at ho22; rw [← Ny254.out] at ho22)); have n0_ := Aside0.mk (Kd.R_lower ho22 (below_size (by repeat (first | (with_reducible first | exact HB.out | apply below_alloc | apply pw_below_drewN | apply below_drew1) | exact HB.out)))); have n1_ := Aside0.mk (below_step (by repeat (first | (with_reducible first | exact HB.out | apply below_alloc | apply pw_below_drewN | apply below_drew1) | exact HB.out)) hb); clear HB; have HO256 := n0_; have HB := n1_; clear n0_ n1_; clear hb ho22))
        have n0_ := Aside0.mk (Kd.R_drew HO256.out)
        have n1_ := Aside0.mk (below_drew1 HB.out)
        clear HO256
        clear HB
        have HO256 := n0_
        have HB := n1_
        clear n0_ n1_
        obtain ⟨Ao24, co24, eo24⟩ := Kd.R_slice HO256.out
        (first | subst eo24 | (injection eo24 with f1_ f2_ f3_; have f4_ := f1_.symm; have f5_ := f3_.symm; clear f1_ f2_ f3_; subst f4_; subst f5_))
        have p257 : 0 ≤ ((ji7) : Int) := of_decide_eq_true (by first | (with_reducible assumption) | assumption)
        have q257 : (ji7) < (y254.length : Int) := of_decide_eq_true (by first | (with_reducible assumption) | assumption)
        obtain ⟨ad257, e257, hx257_0⟩ := Kd.at_string (Kd.R_reads' HO256.out).2.2 (ji7) p257 q257
        cases e257
        replace p257 := eq_true p257
        replace q257 := eq_true q257
        have p263 : 0 ≤ ((ji11) : Int) := of_decide_eq_true (by first | (with_reducible assumption) | assumption)
        have q263 : (ji11) < (y254.length : Int) := of_decide_eq_true (by first | (with_reducible assumption) | assumption)
        obtain ⟨ad263, e263, hx263_0⟩ := Kd.at_string (Kd.R_reads' HO256.out).2.2 (ji11) p263 q263
        obtain rfl : ad257 = ad263 := (by injection e263)
        replace p263 := eq_true p263
        replace q263 := eq_true q263
        have p269 : 0 ≤ ((ji15) : Int) := of_decide_eq_true (by first | (with_reducible assumption) | assumption)
        have q269 : (ji15) < (y254.length : Int) := of_decide_eq_true (by first | (with_reducible assumption) | assumption)
        obtain ⟨ad269, e269, hx269_0⟩ := Kd.at_string (Kd.R_reads' HO256.out).2.2 (ji15) p269 q269
        obtain rfl : ad257 = ad269 := (by injection e269)
        replace p269 := eq_true p269
        replace q269 := eq_true q269
        refine start_ (n := 30) (S := fun w' => True) (ds := []) #[false, false, false, false, false, false, false, false, false, false, false, false, false, false, false, false, false, false, false, false, false, false, false, false, false, false, false, false, false, false] (by kernel_rfl) rfl rfl trivial (fun hHeld => ?_); refine with_tabW recensionlaw5_TokenOps.tab5 recensionlaw5_TokenOps.bits5 (fun HT_ HW_ => ?_)
        generalize w21.drew = w23 at HO256 HB hx257_0 hx263_0 hx269_0 hHeld ⊢
        refine pure_ (i := 0) (N := some 18) (v := ?_) (a' := ?_) #[true, false, false, false, false, false, false, false, false, false, false, false, false, false, false, false, false, false, false, false, false, false, false, false, false, false, false, false, false, false] rfl rfl (any_of HT_.out (by kernel_rfl)) (fun _ _ _ h => h) (Or.inl ⟨by rfl, ?_⟩) ?_ ?_
        rotate_left
        ·intro w'
         go_simp
         with_reducible rfl
        rotate_left
        ·simp only [Act.put, List.setIfInBounds_toArray, List.set_cons_zero, List.set_cons_succ, i64_w, i32_w]
         rfl
        refine pure_ (i := 1) (N := some 19) (v := ?_) (a' := ?_) #[true, true, false, false, false, false, false, false, false, false, false, false, false, false, false, false, false, false, false, false, false, false, false, false, false, false, false, false, false, false] rfl rfl (any_of HT_.out (by kernel_rfl)) (fun _ _ _ h => h) (Or.inl ⟨by rfl, ?_⟩) ?_ ?_
        rotate_left
        ·intro w'
         go_simp
         with_reducible rfl
        rotate_left
        ·simp only [Act.put, List.setIfInBounds_toArray, List.set_cons_zero, List.set_cons_succ, i64_w, i32_w]
         rfl
        refine pure_ (i := 8) (N := some 26) (v := ?_) (a' := ?_) #[true, true, false, false, false, false, false, false, true, false, false, false, false, false, false, false, false, false, false, false, false, false, false, false, false, false, false, false, false, false] rfl rfl (any_of HT_.out (by kernel_rfl)) (fun _ _ _ h => h) (Or.inl ⟨by rfl, ?_⟩) ?_ ?_
        rotate_left
        ·intro w'
         go_simp
         with_reducible rfl
        rotate_left
        ·simp only [Act.put, List.setIfInBounds_toArray, List.set_cons_zero, List.set_cons_succ, i64_w, i32_w]
         rfl
        refine pure_ (i := 9) (N := some 27) (v := ?_) (a' := ?_) #[true, true, false, false, false, false, false, false, true, true, false, false, false, false, false, false, false, false, false, false, false, false, false, false, false, false, false, false, false, false] rfl rfl (any_of HT_.out (by kernel_rfl)) (fun _ _ _ h => h) (Or.inl ⟨by rfl, ?_⟩) ?_ ?_
        rotate_left
        ·intro w'
         go_simp
         with_reducible rfl
        rotate_left
        ·simp only [Act.put, List.setIfInBounds_toArray, List.set_cons_zero, List.set_cons_succ, i64_w, i32_w]
         rfl
        refine pure_ (i := 16) (N := some 34) (v := ?_) (a' := ?_) #[true, true, false, false, false, false, false, false, true, true, false, false, false, false, false, false, true, false, false, false, false, false, false, false, false, false, false, false, false, false] rfl rfl (any_of HT_.out (by kernel_rfl)) (fun _ _ _ h => h) (Or.inl ⟨by rfl, ?_⟩) ?_ ?_
        rotate_left
        ·intro w'
         go_simp
         with_reducible rfl
        rotate_left
        ·simp only [Act.put, List.setIfInBounds_toArray, List.set_cons_zero, List.set_cons_succ, i64_w, i32_w]
         rfl
        refine pure_ (i := 17) (N := some 35) (v := ?_) (a' := ?_) #[true, true, false, false, false, false, false, false, true, true, false, false, false, false, false, false, true, true, false, false, false, false, false, false, false, false, false, false, false, false] rfl rfl (any_of HT_.out (by kernel_rfl)) (fun _ _ _ h => h) (Or.inl ⟨by rfl, ?_⟩) ?_ ?_
        rotate_left
        ·intro w'
         go_simp
         with_reducible rfl
        rotate_left
        ·simp only [Act.put, List.setIfInBounds_toArray, List.set_cons_zero, List.set_cons_succ, i64_w, i32_w]
         rfl
        refine inv_at [2, 3, 4, 5, 6, 7, 10, 11, 12, 13, 14, 15, 18, 19, 20, 21, 22, 23, 24, 25, 26, 27, 28, 29] (fun a0_ b a w' => ∃ (gb275 : Nat) (gb276 : Nat) (gb277 : Nat) (m24_ : Value) (m25_ : Value) (m26_ : Value), a = putSel a0_ b [(2, 20, .int .i64 (Int.tmod a0 18)), (3, 21, .int .i64 (wrap64 ((Int.tmod a0 18) + 18))), (4, 22, .int .i64 ji7), (5, 23, .pointer (some (ad257.add ((ji7)).toNat))), (6, 24, .string (rdOf ByteArray.empty y254 (ji7))), (7, 25, .agg #[.int .i64 t258, .string t259, .int .i64 t260, .int .i64 t261, .bool t262]), (10, 28, .int .i64 (Int.tmod a1 18)), (11, 29, .int .i64 (wrap64 ((Int.tmod a1 18) + 18))), (12, 30, .int .i64 ji11), (13, 31, .pointer (some (ad257.add ((ji11)).toNat))), (14, 32, .string (rdOf ByteArray.empty y254 (ji11))), (15, 33, .agg #[.int .i64 t264, .string t265, .int .i64 t266, .int .i64 t267, .bool t268]), (18, 36, .int .i64 (Int.tmod a2 18)), (19, 37, .int .i64 (wrap64 ((Int.tmod a2 18) + 18))), (20, 38, .int .i64 ji15), (21, 39, .pointer (some (ad257.add ((ji15)).toNat))), (22, 40, .string (rdOf ByteArray.empty y254 (ji15))), (23, 41, .agg #[.int .i64 t270, .string t271, .int .i64 t272, .int .i64 t273, .bool t274]), (24, 11, m24_), (25, 12, m25_), (26, 13, m26_)] ∧ (Kd.R Kd.string 9 w' w.heap.size (fun _ => True) (.slice (some ad257) y254.length co24) y254) ∧ (Below w.heap.size w w') ∧ (b 24 = true → b 25 = true → gb276 ≠ gb275) ∧ (b 24 = true → b 25 = true → gb275 ≠ gb276) ∧ (b 24 = true → b 26 = true → gb277 ≠ gb275) ∧ (b 24 = true → b 26 = true → gb275 ≠ gb277) ∧ (b 25 = true → b 26 = true → gb277 ≠ gb276) ∧ (b 25 = true → b 26 = true → gb276 ≠ gb277) ∧ (b 24 = true → b 27 = false → w'.heap[gb275]? = some (.cells #[.int .i64 0, .string (⟨#[]⟩ : ByteArray), .int .i64 0, .int .i64 0, .bool false] 23 (0, 0))) ∧ (b 24 = true → w.heap.size ≤ gb275) ∧ (b 24 = true → w.heap.size ≤ gb275) ∧ (b 25 = true → b 28 = false → w'.heap[gb276]? = some (.cells #[.int .i64 0, .string (⟨#[]⟩ : ByteArray), .int .i64 0, .int .i64 0, .bool false] 23 (0, 0))) ∧ (b 25 = true → w.heap.size ≤ gb276) ∧ (b 25 = true → w.heap.size ≤ gb276) ∧ (b 26 = true → b 29 = false → w'.heap[gb277]? = some (.cells #[.int .i64 0, .string (⟨#[]⟩ : ByteArray), .int .i64 0, .int .i64 0, .bool false] 23 (0, 0))) ∧ (b 26 = true → w.heap.size ≤ gb277) ∧ (b 26 = true → w.heap.size ≤ gb277) ∧ (b 27 = true → w'.heap[gb275]? = some (.cells #[.int .i64 t258, .string t259, .int .i64 t260, .int .i64 t261, .bool t262] 23 (0, 0))) ∧ (b 28 = true → w'.heap[gb276]? = some (.cells #[.int .i64 t264, .string t265, .int .i64 t266, .int .i64 t267, .bool t268] 23 (0, 0))) ∧ (b 29 = true → w'.heap[gb277]? = some (.cells #[.int .i64 t270, .string t271, .int .i64 t272, .int .i64 t273, .bool t274] 23 (0, 0))) ∧ (b 24 = true → (m24_ : Value) = .pointer (some ⟨gb275, 0, none⟩)) ∧ (b 25 = true → (m25_ : Value) = .pointer (some ⟨gb276, 0, none⟩)) ∧ (b 26 = true → (m26_ : Value) = .pointer (some ⟨gb277, 0, none⟩))) HT_.out HW_.out (by kernel_rfl) (by kernel_rfl) ?_ ?_ ?_
        ·exact ⟨0, 0, 0, .bool false, .bool false, .bool false, by simp only [putSel, Bool.false_eq_true, if_false], HO256.out, HB.out, fun h_ => absurd h_ (by decide), fun h_ => absurd h_ (by decide), fun h_ => absurd h_ (by decide), fun h_ => absurd h_ (by decide), fun h_ => absurd h_ (by decide), fun h_ => absurd h_ (by decide), fun h_ => absurd h_ (by decide), fun h_ => absurd h_ (by decide), fun h_ => absurd h_ (by decide), fun h_ => absurd h_ (by decide), fun h_ => absurd h_ (by decide), fun h_ => absurd h_ (by decide), fun h_ => absurd h_ (by decide), fun h_ => absurd h_ (by decide), fun h_ => absurd h_ (by decide), fun h_ => absurd h_ (by decide), fun h_ => absurd h_ (by decide), fun h_ => absurd h_ (by decide), fun h_ => absurd h_ (by decide), fun h_ => absurd h_ (by decide), fun h_ => absurd h_ (by decide)⟩
        ·skip
         clear HB HO256
         refine steps_cons ?_ ?_
         ·rintro b a w' ⟨gb275, gb276, gb277, m24_, m25_, m26_, ha, Q_HO256, Q_HB, Q_NB276_275, Q_NB275_276, Q_NB277_275, Q_NB275_277, Q_NB277_276, Q_NB276_277, Q_BK275, Q_GW275, Q_GE275, Q_BK276, Q_GW276, Q_GE276, Q_BK277, Q_GW277, Q_GE277, Q_BK275_e27, Q_BK276_e28, Q_BK277_e29, Q_X24_, Q_X25_, Q_X26_⟩ hb_ hon hoff
          refine ⟨_, rfl, fun K hK => ?_⟩
          have e19 : a.tmps[19]? = some (.int .i64 a0) := by rw [ha]; exact (putSel_off rfl).trans rfl
          replace ha := Aside0.mk ha
          have HO256 := Aside0.mk Q_HO256
          have HB := Aside0.mk Q_HB
          refine value_ (w1 := w') (v := .int .i64 (Int.tmod a0 18)) (by rfl) rfl ?_ ?_
          ·go_simp
           (try simp only [i64_w])
           try rfl
          refine hK.out _ _ ⟨gb275, gb276, gb277, m24_, m25_, m26_, (by rw [ha.out]; exact putSel_upk 0 hb_ rfl rfl rfl), Q_HO256, Q_HB, Q_NB276_275, Q_NB275_276, Q_NB277_275, Q_NB275_277, Q_NB277_276, Q_NB276_277, Q_BK275, Q_GW275, Q_GE275, Q_BK276, Q_GW276, Q_GE276, Q_BK277, Q_GW277, Q_GE277, fun h0_ => absurd ((hoff 27 (by kernel_rfl)).symm.trans h0_) (by decide), fun h0_ => absurd ((hoff 28 (by kernel_rfl)).symm.trans h0_) (by decide), fun h0_ => absurd ((hoff 29 (by kernel_rfl)).symm.trans h0_) (by decide), Q_X24_, Q_X25_, Q_X26_⟩
         refine steps_cons ?_ ?_
         ·rintro b a w' ⟨gb275, gb276, gb277, m24_, m25_, m26_, ha, Q_HO256, Q_HB, Q_NB276_275, Q_NB275_276, Q_NB277_275, Q_NB275_277, Q_NB277_276, Q_NB276_277, Q_BK275, Q_GW275, Q_GE275, Q_BK276, Q_GW276, Q_GE276, Q_BK277, Q_GW277, Q_GE277, Q_BK275_e27, Q_BK276_e28, Q_BK277_e29, Q_X24_, Q_X25_, Q_X26_⟩ hb_ hon hoff
          refine ⟨_, rfl, fun K hK => ?_⟩
          have e20 : a.tmps[20]? = some (.int .i64 (Int.tmod a0 18)) := by rw [ha]; exact putSel_on (e := (2, 20, .int .i64 (Int.tmod a0 18))) 0 rfl rfl (hon 2 (by kernel_rfl)) rfl
          replace ha := Aside0.mk ha
          have HO256 := Aside0.mk Q_HO256
          have HB := Aside0.mk Q_HB
          refine value_ (w1 := w') (v := .int .i64 (wrap64 ((Int.tmod a0 18) + 18))) (by rfl) rfl ?_ ?_
          ·go_simp
           (try simp only [i64_w])
           try rfl
          refine hK.out _ _ ⟨gb275, gb276, gb277, m24_, m25_, m26_, (by rw [ha.out]; exact putSel_upk 1 hb_ rfl rfl rfl), Q_HO256, Q_HB, Q_NB276_275, Q_NB275_276, Q_NB277_275, Q_NB275_277, Q_NB277_276, Q_NB276_277, Q_BK275, Q_GW275, Q_GE275, Q_BK276, Q_GW276, Q_GE276, Q_BK277, Q_GW277, Q_GE277, fun h0_ => absurd ((hoff 27 (by kernel_rfl)).symm.trans h0_) (by decide), fun h0_ => absurd ((hoff 28 (by kernel_rfl)).symm.trans h0_) (by decide), fun h0_ => absurd ((hoff 29 (by kernel_rfl)).symm.trans h0_) (by decide), Q_X24_, Q_X25_, Q_X26_⟩
         refine steps_cons ?_ ?_
         ·rintro b a w' ⟨gb275, gb276, gb277, m24_, m25_, m26_, ha, Q_HO256, Q_HB, Q_NB276_275, Q_NB275_276, Q_NB277_275, Q_NB275_277, Q_NB277_276, Q_NB276_277, Q_BK275, Q_GW275, Q_GE275, Q_BK276, Q_GW276, Q_GE276, Q_BK277, Q_GW277, Q_GE277, Q_BK275_e27, Q_BK276_e28, Q_BK277_e29, Q_X24_, Q_X25_, Q_X26_⟩ hb_ hon hoff
          refine ⟨_, rfl, fun K hK => ?_⟩
          have e21 : a.tmps[21]? = some (.int .i64 (wrap64 ((Int.tmod a0 18) + 18))) := by rw [ha]; exact putSel_on (e := (3, 21, .int .i64 (wrap64 ((Int.tmod a0 18) + 18)))) 1 rfl rfl (hon 3 (by kernel_rfl)) rfl
          replace ha := Aside0.mk ha
          have HO256 := Aside0.mk Q_HO256
          have HB := Aside0.mk Q_HB
          refine value_ (w1 := w') (v := .int .i64 ji7) (by rfl) rfl ?_ ?_
          ·go_simp
           (try simp only [i64_w])
           try rfl
          refine hK.out _ _ ⟨gb275, gb276, gb277, m24_, m25_, m26_, (by rw [ha.out]; exact putSel_upk 2 hb_ rfl rfl rfl), Q_HO256, Q_HB, Q_NB276_275, Q_NB275_276, Q_NB277_275, Q_NB275_277, Q_NB277_276, Q_NB276_277, Q_BK275, Q_GW275, Q_GE275, Q_BK276, Q_GW276, Q_GE276, Q_BK277, Q_GW277, Q_GE277, fun h0_ => absurd ((hoff 27 (by kernel_rfl)).symm.trans h0_) (by decide), fun h0_ => absurd ((hoff 28 (by kernel_rfl)).symm.trans h0_) (by decide), fun h0_ => absurd ((hoff 29 (by kernel_rfl)).symm.trans h0_) (by decide), Q_X24_, Q_X25_, Q_X26_⟩
         refine steps_cons ?_ ?_
         ·rintro b a w' ⟨gb275, gb276, gb277, m24_, m25_, m26_, ha, Q_HO256, Q_HB, Q_NB276_275, Q_NB275_276, Q_NB277_275, Q_NB275_277, Q_NB277_276, Q_NB276_277, Q_BK275, Q_GW275, Q_GE275, Q_BK276, Q_GW276, Q_GE276, Q_BK277, Q_GW277, Q_GE277, Q_BK275_e27, Q_BK276_e28, Q_BK277_e29, Q_X24_, Q_X25_, Q_X26_⟩ hb_ hon hoff
          refine ⟨_, rfl, fun K hK => ?_⟩
          have e18 : a.tmps[18]? = some (.slice (some ad257) y254.length co24) := by rw [ha]; exact (putSel_off rfl).trans rfl
          have e22 : a.tmps[22]? = some (.int .i64 ji7) := by rw [ha]; exact putSel_on (e := (4, 22, .int .i64 ji7)) 2 rfl rfl (hon 4 (by kernel_rfl)) rfl
          replace ha := Aside0.mk ha
          have HO256 := Aside0.mk Q_HO256
          have HB := Aside0.mk Q_HB
          refine value_ (w1 := w') (v := .pointer (some (ad257.add ((ji7)).toNat))) (by rfl) rfl ?_ ?_
          ·go_simp
           (try simp only [i64_w])
           try rfl
          refine hK.out _ _ ⟨gb275, gb276, gb277, m24_, m25_, m26_, (by rw [ha.out]; exact putSel_upk 3 hb_ rfl rfl rfl), Q_HO256, Q_HB, Q_NB276_275, Q_NB275_276, Q_NB277_275, Q_NB275_277, Q_NB277_276, Q_NB276_277, Q_BK275, Q_GW275, Q_GE275, Q_BK276, Q_GW276, Q_GE276, Q_BK277, Q_GW277, Q_GE277, fun h0_ => absurd ((hoff 27 (by kernel_rfl)).symm.trans h0_) (by decide), fun h0_ => absurd ((hoff 28 (by kernel_rfl)).symm.trans h0_) (by decide), fun h0_ => absurd ((hoff 29 (by kernel_rfl)).symm.trans h0_) (by decide), Q_X24_, Q_X25_, Q_X26_⟩
         refine steps_cons ?_ ?_
         ·rintro b a w' ⟨gb275, gb276, gb277, m24_, m25_, m26_, ha, Q_HO256, Q_HB, Q_NB276_275, Q_NB275_276, Q_NB277_275, Q_NB275_277, Q_NB277_276, Q_NB276_277, Q_BK275, Q_GW275, Q_GE275, Q_BK276, Q_GW276, Q_GE276, Q_BK277, Q_GW277, Q_GE277, Q_BK275_e27, Q_BK276_e28, Q_BK277_e29, Q_X24_, Q_X25_, Q_X26_⟩ hb_ hon hoff
          refine ⟨_, rfl, fun K hK => ?_⟩
          have e23 : a.tmps[23]? = some (.pointer (some (ad257.add ((ji7)).toNat))) := by rw [ha]; exact putSel_on (e := (5, 23, .pointer (some (ad257.add ((ji7)).toNat)))) 3 rfl rfl (hon 5 (by kernel_rfl)) rfl
          replace ha := Aside0.mk ha
          have HO256 := Aside0.mk Q_HO256
          have HB := Aside0.mk Q_HB
          obtain ⟨ad257_z, e257_z, hx257_0_z⟩ := Kd.at_string (Kd.R_reads' HO256.out).2.2 (ji7) (of_eq_true p257) (of_eq_true q257)
          cases e257_z
          have hs0_ : w'.cell? (ad257.add ((ji7)).toNat) = some (.string (rdOf ByteArray.empty y254 (ji7))) := (by first | exact hx257_0_z | (have h_ := hx257_0_z; (try simp only [Int.reduceToNat, Nat.zero_mul, Nat.reduceMul, Nat.reduceEqDiff, Go.Addr.add, ↓reduceIte, Addr.add_zero'] at h_); exact h_))
          refine value_ (w1 := w') (v := .string (rdOf ByteArray.empty y254 (ji7))) (by rfl) rfl ?_ ?_
          ·go_simp
           (try simp only [i64_w])
           try rfl
          refine hK.out _ _ ⟨gb275, gb276, gb277, m24_, m25_, m26_, (by rw [ha.out]; exact putSel_upk 4 hb_ rfl rfl rfl), Q_HO256, Q_HB, Q_NB276_275, Q_NB275_276, Q_NB277_275, Q_NB275_277, Q_NB277_276, Q_NB276_277, Q_BK275, Q_GW275, Q_GE275, Q_BK276, Q_GW276, Q_GE276, Q_BK277, Q_GW277, Q_GE277, fun h0_ => absurd ((hoff 27 (by kernel_rfl)).symm.trans h0_) (by decide), fun h0_ => absurd ((hoff 28 (by kernel_rfl)).symm.trans h0_) (by decide), fun h0_ => absurd ((hoff 29 (by kernel_rfl)).symm.trans h0_) (by decide), Q_X24_, Q_X25_, Q_X26_⟩
         refine steps_cons ?_ ?_
         ·rintro b a w' ⟨gb275, gb276, gb277, m24_, m25_, m26_, ha, Q_HO256, Q_HB, Q_NB276_275, Q_NB275_276, Q_NB277_275, Q_NB275_277, Q_NB277_276, Q_NB276_277, Q_BK275, Q_GW275, Q_GE275, Q_BK276, Q_GW276, Q_GE276, Q_BK277, Q_GW277, Q_GE277, Q_BK275_e27, Q_BK276_e28, Q_BK277_e29, Q_X24_, Q_X25_, Q_X26_⟩ hb_ hon hoff
          refine ⟨_, rfl, fun K hK => ?_⟩
          have e24 : a.tmps[24]? = some (.string (rdOf ByteArray.empty y254 (ji7))) := by rw [ha]; exact putSel_on (e := (6, 24, .string (rdOf ByteArray.empty y254 (ji7)))) 4 rfl rfl (hon 6 (by kernel_rfl)) rfl
          replace ha := Aside0.mk ha
          have HO256 := Aside0.mk Q_HO256
          have HB := Aside0.mk Q_HB
          refine goes_ Try.func19 (by kernel_rfl) rfl #[.string (rdOf ByteArray.empty y254 (ji7))] (by rfl) rfl rfl (by first | (simp only [List.map_toArray, List.map_cons, List.map_nil, Act.eval, Array.getD_eq_getD_getElem?, Option.getD_some, e24]; done) | (simp only [List.map_toArray, List.map_cons, List.map_nil, Act.eval, Array.getD_eq_getD_getElem?, Option.getD_some, e24]; rfl)) ?_
          with_reducible refine (recensionlaw5_op.calls (rdOf ByteArray.empty y254 (ji7)) t258 t259 t260 t261 t262 _ A10.out).mono ?_
          rintro e w25 ⟨rfl, hb⟩
          refine ⟨_, rfl, ?_⟩
          have n0_ := Aside0.mk (Kd.R_below (by (with_reducible repeat (first | apply Kd.R_alloc | apply Kd.R_drewN | apply Kd.R_drew)); exact HO256.out) hb)
          have n1_ := Aside0.mk (below_step (by repeat (first | (with_reducible first | exact HB.out | apply below_alloc | apply pw_below_drewN | apply below_drew1) | exact HB.out)) hb)
          have z_BK275 := fun (h0_ : b 24 = true) (h1_ : b 27 = false) => (show w25.heap[gb275]? = some (.cells #[.int .i64 0, .string (⟨#[]⟩ : ByteArray), .int .i64 0, .int .i64 0, .bool false] 23 (0, 0)) from by first | exact (blk_below (g := gb275) (o := .cells #[.int .i64 0, .string (⟨#[]⟩ : ByteArray), .int .i64 0, .int .i64 0, .bool false] 23 (0, 0)) (by (with_reducible repeat (first | refine blk_drewN ?_ _ | refine blk_drew ?_ | refine blk_alloc ?_ _)); exact (Q_BK275 h0_ h1_)) hb))
          have z_BK276 := fun (h0_ : b 25 = true) (h1_ : b 28 = false) => (show w25.heap[gb276]? = some (.cells #[.int .i64 0, .string (⟨#[]⟩ : ByteArray), .int .i64 0, .int .i64 0, .bool false] 23 (0, 0)) from by first | exact (blk_below (g := gb276) (o := .cells #[.int .i64 0, .string (⟨#[]⟩ : ByteArray), .int .i64 0, .int .i64 0, .bool false] 23 (0, 0)) (by (with_reducible repeat (first | refine blk_drewN ?_ _ | refine blk_drew ?_ | refine blk_alloc ?_ _)); exact (Q_BK276 h0_ h1_)) hb))
          have z_BK277 := fun (h0_ : b 26 = true) (h1_ : b 29 = false) => (show w25.heap[gb277]? = some (.cells #[.int .i64 0, .string (⟨#[]⟩ : ByteArray), .int .i64 0, .int .i64 0, .bool false] 23 (0, 0)) from by first | exact (blk_below (g := gb277) (o := .cells #[.int .i64 0, .string (⟨#[]⟩ : ByteArray), .int .i64 0, .int .i64 0, .bool false] 23 (0, 0)) (by (with_reducible repeat (first | refine blk_drewN ?_ _ | refine blk_drew ?_ | refine blk_alloc ?_ _)); exact (Q_BK277 h0_ h1_)) hb))
          clear HO256
          clear HB
          have HO256 := n0_
          have HB := n1_
          clear n0_ n1_
          (try clear hb)
          (try clear hb2)
          (try clear hk)
          (try clear hi)
          refine hK.out _ _ ⟨gb275, gb276, gb277, m24_, m25_, m26_, (by rw [ha.out]; exact putSel_upk 5 hb_ rfl rfl rfl), (by (with_reducible repeat (first | apply Kd.R_alloc | apply Kd.R_drewN | apply Kd.R_drew)); exact HO256.out), (by repeat (first | (with_reducible first | exact HB.out | apply below_alloc | apply pw_below_drewN | apply below_drew1) | exact HB.out)), Q_NB276_275, Q_NB275_276, Q_NB277_275, Q_NB275_277, Q_NB277_276, Q_NB276_277, z_BK275, Q_GW275, Q_GE275, z_BK276, Q_GW276, Q_GE276, z_BK277, Q_GW277, Q_GE277, fun h0_ => absurd ((hoff 27 (by kernel_rfl)).symm.trans h0_) (by decide), fun h0_ => absurd ((hoff 28 (by kernel_rfl)).symm.trans h0_) (by decide), fun h0_ => absurd ((hoff 29 (by kernel_rfl)).symm.trans h0_) (by decide), Q_X24_, Q_X25_, Q_X26_⟩
         refine steps_cons ?_ ?_
         ·rintro b a w' ⟨gb275, gb276, gb277, m24_, m25_, m26_, ha, Q_HO256, Q_HB, Q_NB276_275, Q_NB275_276, Q_NB277_275, Q_NB275_277, Q_NB277_276, Q_NB276_277, Q_BK275, Q_GW275, Q_GE275, Q_BK276, Q_GW276, Q_GE276, Q_BK277, Q_GW277, Q_GE277, Q_BK275_e27, Q_BK276_e28, Q_BK277_e29, Q_X24_, Q_X25_, Q_X26_⟩ hb_ hon hoff
          refine ⟨_, rfl, fun K hK => ?_⟩
          have e27 : a.tmps[27]? = some (.int .i64 a1) := by rw [ha]; exact (putSel_off rfl).trans rfl
          replace ha := Aside0.mk ha
          have HO256 := Aside0.mk Q_HO256
          have HB := Aside0.mk Q_HB
          refine value_ (w1 := w') (v := .int .i64 (Int.tmod a1 18)) (by rfl) rfl ?_ ?_
          ·go_simp
           (try simp only [i64_w])
           try rfl
          refine hK.out _ _ ⟨gb275, gb276, gb277, m24_, m25_, m26_, (by rw [ha.out]; exact putSel_upk 6 hb_ rfl rfl rfl), Q_HO256, Q_HB, Q_NB276_275, Q_NB275_276, Q_NB277_275, Q_NB275_277, Q_NB277_276, Q_NB276_277, Q_BK275, Q_GW275, Q_GE275, Q_BK276, Q_GW276, Q_GE276, Q_BK277, Q_GW277, Q_GE277, fun h0_ => absurd ((hoff 27 (by kernel_rfl)).symm.trans h0_) (by decide), fun h0_ => absurd ((hoff 28 (by kernel_rfl)).symm.trans h0_) (by decide), fun h0_ => absurd ((hoff 29 (by kernel_rfl)).symm.trans h0_) (by decide), Q_X24_, Q_X25_, Q_X26_⟩
         refine steps_cons ?_ ?_
         ·rintro b a w' ⟨gb275, gb276, gb277, m24_, m25_, m26_, ha, Q_HO256, Q_HB, Q_NB276_275, Q_NB275_276, Q_NB277_275, Q_NB275_277, Q_NB277_276, Q_NB276_277, Q_BK275, Q_GW275, Q_GE275, Q_BK276, Q_GW276, Q_GE276, Q_BK277, Q_GW277, Q_GE277, Q_BK275_e27, Q_BK276_e28, Q_BK277_e29, Q_X24_, Q_X25_, Q_X26_⟩ hb_ hon hoff
          refine ⟨_, rfl, fun K hK => ?_⟩
          have e28 : a.tmps[28]? = some (.int .i64 (Int.tmod a1 18)) := by rw [ha]; exact putSel_on (e := (10, 28, .int .i64 (Int.tmod a1 18))) 6 rfl rfl (hon 10 (by kernel_rfl)) rfl
          replace ha := Aside0.mk ha
          have HO256 := Aside0.mk Q_HO256
          have HB := Aside0.mk Q_HB
          refine value_ (w1 := w') (v := .int .i64 (wrap64 ((Int.tmod a1 18) + 18))) (by rfl) rfl ?_ ?_
          ·go_simp
           (try simp only [i64_w])
           try rfl
          refine hK.out _ _ ⟨gb275, gb276, gb277, m24_, m25_, m26_, (by rw [ha.out]; exact putSel_upk 7 hb_ rfl rfl rfl), Q_HO256, Q_HB, Q_NB276_275, Q_NB275_276, Q_NB277_275, Q_NB275_277, Q_NB277_276, Q_NB276_277, Q_BK275, Q_GW275, Q_GE275, Q_BK276, Q_GW276, Q_GE276, Q_BK277, Q_GW277, Q_GE277, fun h0_ => absurd ((hoff 27 (by kernel_rfl)).symm.trans h0_) (by decide), fun h0_ => absurd ((hoff 28 (by kernel_rfl)).symm.trans h0_) (by decide), fun h0_ => absurd ((hoff 29 (by kernel_rfl)).symm.trans h0_) (by decide), Q_X24_, Q_X25_, Q_X26_⟩
         refine steps_cons ?_ ?_
         ·rintro b a w' ⟨gb275, gb276, gb277, m24_, m25_, m26_, ha, Q_HO256, Q_HB, Q_NB276_275, Q_NB275_276, Q_NB277_275, Q_NB275_277, Q_NB277_276, Q_NB276_277, Q_BK275, Q_GW275, Q_GE275, Q_BK276, Q_GW276, Q_GE276, Q_BK277, Q_GW277, Q_GE277, Q_BK275_e27, Q_BK276_e28, Q_BK277_e29, Q_X24_, Q_X25_, Q_X26_⟩ hb_ hon hoff
          refine ⟨_, rfl, fun K hK => ?_⟩
          have e29 : a.tmps[29]? = some (.int .i64 (wrap64 ((Int.tmod a1 18) + 18))) := by rw [ha]; exact putSel_on (e := (11, 29, .int .i64 (wrap64 ((Int.tmod a1 18) + 18)))) 7 rfl rfl (hon 11 (by kernel_rfl)) rfl
          replace ha := Aside0.mk ha
          have HO256 := Aside0.mk Q_HO256
          have HB := Aside0.mk Q_HB
          refine value_ (w1 := w') (v := .int .i64 ji11) (by rfl) rfl ?_ ?_
          ·go_simp
           (try simp only [i64_w])
           try rfl
          refine hK.out _ _ ⟨gb275, gb276, gb277, m24_, m25_, m26_, (by rw [ha.out]; exact putSel_upk 8 hb_ rfl rfl rfl), Q_HO256, Q_HB, Q_NB276_275, Q_NB275_276, Q_NB277_275, Q_NB275_277, Q_NB277_276, Q_NB276_277, Q_BK275, Q_GW275, Q_GE275, Q_BK276, Q_GW276, Q_GE276, Q_BK277, Q_GW277, Q_GE277, fun h0_ => absurd ((hoff 27 (by kernel_rfl)).symm.trans h0_) (by decide), fun h0_ => absurd ((hoff 28 (by kernel_rfl)).symm.trans h0_) (by decide), fun h0_ => absurd ((hoff 29 (by kernel_rfl)).symm.trans h0_) (by decide), Q_X24_, Q_X25_, Q_X26_⟩
         refine steps_cons ?_ ?_
         ·rintro b a w' ⟨gb275, gb276, gb277, m24_, m25_, m26_, ha, Q_HO256, Q_HB, Q_NB276_275, Q_NB275_276, Q_NB277_275, Q_NB275_277, Q_NB277_276, Q_NB276_277, Q_BK275, Q_GW275, Q_GE275, Q_BK276, Q_GW276, Q_GE276, Q_BK277, Q_GW277, Q_GE277, Q_BK275_e27, Q_BK276_e28, Q_BK277_e29, Q_X24_, Q_X25_, Q_X26_⟩ hb_ hon hoff
          refine ⟨_, rfl, fun K hK => ?_⟩
          have e26 : a.tmps[26]? = some (.slice (some ad257) y254.length co24) := by rw [ha]; exact (putSel_off rfl).trans rfl
          have e30 : a.tmps[30]? = some (.int .i64 ji11) := by rw [ha]; exact putSel_on (e := (12, 30, .int .i64 ji11)) 8 rfl rfl (hon 12 (by kernel_rfl)) rfl
          replace ha := Aside0.mk ha
          have HO256 := Aside0.mk Q_HO256
          have HB := Aside0.mk Q_HB
          refine value_ (w1 := w') (v := .pointer (some (ad257.add ((ji11)).toNat))) (by rfl) rfl ?_ ?_
          ·go_simp
           (try simp only [i64_w])
           try rfl
          refine hK.out _ _ ⟨gb275, gb276, gb277, m24_, m25_, m26_, (by rw [ha.out]; exact putSel_upk 9 hb_ rfl rfl rfl), Q_HO256, Q_HB, Q_NB276_275, Q_NB275_276, Q_NB277_275, Q_NB275_277, Q_NB277_276, Q_NB276_277, Q_BK275, Q_GW275, Q_GE275, Q_BK276, Q_GW276, Q_GE276, Q_BK277, Q_GW277, Q_GE277, fun h0_ => absurd ((hoff 27 (by kernel_rfl)).symm.trans h0_) (by decide), fun h0_ => absurd ((hoff 28 (by kernel_rfl)).symm.trans h0_) (by decide), fun h0_ => absurd ((hoff 29 (by kernel_rfl)).symm.trans h0_) (by decide), Q_X24_, Q_X25_, Q_X26_⟩
         refine steps_cons ?_ ?_
         ·rintro b a w' ⟨gb275, gb276, gb277, m24_, m25_, m26_, ha, Q_HO256, Q_HB, Q_NB276_275, Q_NB275_276, Q_NB277_275, Q_NB275_277, Q_NB277_276, Q_NB276_277, Q_BK275, Q_GW275, Q_GE275, Q_BK276, Q_GW276, Q_GE276, Q_BK277, Q_GW277, Q_GE277, Q_BK275_e27, Q_BK276_e28, Q_BK277_e29, Q_X24_, Q_X25_, Q_X26_⟩ hb_ hon hoff
          refine ⟨_, rfl, fun K hK => ?_⟩
          have e31 : a.tmps[31]? = some (.pointer (some (ad257.add ((ji11)).toNat))) := by rw [ha]; exact putSel_on (e := (13, 31, .pointer (some (ad257.add ((ji11)).toNat)))) 9 rfl rfl (hon 13 (by kernel_rfl)) rfl
          replace ha := Aside0.mk ha
          have HO256 := Aside0.mk Q_HO256
          have HB := Aside0.mk Q_HB
          obtain ⟨ad263_z, e263_z, hx263_0_z⟩ := Kd.at_string (Kd.R_reads' HO256.out).2.2 (ji11) (of_eq_true p263) (of_eq_true q263)
          cases e263_z
          have hs1_ : w'.cell? (ad257.add ((ji11)).toNat) = some (.string (rdOf ByteArray.empty y254 (ji11))) := (by first | exact hx263_0_z | (have h_ := hx263_0_z; (try simp only [Int.reduceToNat, Nat.zero_mul, Nat.reduceMul, Nat.reduceEqDiff, Go.Addr.add, ↓reduceIte, Addr.add_zero'] at h_); exact h_))
          refine value_ (w1 := w') (v := .string (rdOf ByteArray.empty y254 (ji11))) (by rfl) rfl ?_ ?_
          ·go_simp
           (try simp only [i64_w])
           try rfl
          refine hK.out _ _ ⟨gb275, gb276, gb277, m24_, m25_, m26_, (by rw [ha.out]; exact putSel_upk 10 hb_ rfl rfl rfl), Q_HO256, Q_HB, Q_NB276_275, Q_NB275_276, Q_NB277_275, Q_NB275_277, Q_NB277_276, Q_NB276_277, Q_BK275, Q_GW275, Q_GE275, Q_BK276, Q_GW276, Q_GE276, Q_BK277, Q_GW277, Q_GE277, fun h0_ => absurd ((hoff 27 (by kernel_rfl)).symm.trans h0_) (by decide), fun h0_ => absurd ((hoff 28 (by kernel_rfl)).symm.trans h0_) (by decide), fun h0_ => absurd ((hoff 29 (by kernel_rfl)).symm.trans h0_) (by decide), Q_X24_, Q_X25_, Q_X26_⟩
         refine steps_cons ?_ ?_
         ·rintro b a w' ⟨gb275, gb276, gb277, m24_, m25_, m26_, ha, Q_HO256, Q_HB, Q_NB276_275, Q_NB275_276, Q_NB277_275, Q_NB275_277, Q_NB277_276, Q_NB276_277, Q_BK275, Q_GW275, Q_GE275, Q_BK276, Q_GW276, Q_GE276, Q_BK277, Q_GW277, Q_GE277, Q_BK275_e27, Q_BK276_e28, Q_BK277_e29, Q_X24_, Q_X25_, Q_X26_⟩ hb_ hon hoff
          refine ⟨_, rfl, fun K hK => ?_⟩
          have e32 : a.tmps[32]? = some (.string (rdOf ByteArray.empty y254 (ji11))) := by rw [ha]; exact putSel_on (e := (14, 32, .string (rdOf ByteArray.empty y254 (ji11)))) 10 rfl rfl (hon 14 (by kernel_rfl)) rfl
          replace ha := Aside0.mk ha
          have HO256 := Aside0.mk Q_HO256
          have HB := Aside0.mk Q_HB
          refine goes_ Try.func19 (by kernel_rfl) rfl #[.string (rdOf ByteArray.empty y254 (ji11))] (by rfl) rfl rfl (by first | (simp only [List.map_toArray, List.map_cons, List.map_nil, Act.eval, Array.getD_eq_getD_getElem?, Option.getD_some, e32]; done) | (simp only [List.map_toArray, List.map_cons, List.map_nil, Act.eval, Array.getD_eq_getD_getElem?, Option.getD_some, e32]; rfl)) ?_
          with_reducible refine (recensionlaw5_op.calls (rdOf ByteArray.empty y254 (ji11)) t264 t265 t266 t267 t268 _ A14.out).mono ?_
          rintro e w27 ⟨rfl, hb⟩
          refine ⟨_, rfl, ?_⟩
          have n0_ := Aside0.mk (Kd.R_below (by (with_reducible repeat (first | apply Kd.R_alloc | apply Kd.R_drewN | apply Kd.R_drew)); exact HO256.out) hb)
          have n1_ := Aside0.mk (below_step (by repeat (first | (with_reducible first | exact HB.out | apply below_alloc | apply pw_below_drewN | apply below_drew1) | exact HB.out)) hb)
          have z_BK275 := fun (h0_ : b 24 = true) (h1_ : b 27 = false) => (show w27.heap[gb275]? = some (.cells #[.int .i64 0, .string (⟨#[]⟩ : ByteArray), .int .i64 0, .int .i64 0, .bool false] 23 (0, 0)) from by first | exact (blk_below (g := gb275) (o := .cells #[.int .i64 0, .string (⟨#[]⟩ : ByteArray), .int .i64 0, .int .i64 0, .bool false] 23 (0, 0)) (by (with_reducible repeat (first | refine blk_drewN ?_ _ | refine blk_drew ?_ | refine blk_alloc ?_ _)); exact (Q_BK275 h0_ h1_)) hb))
          have z_BK276 := fun (h0_ : b 25 = true) (h1_ : b 28 = false) => (show w27.heap[gb276]? = some (.cells #[.int .i64 0, .string (⟨#[]⟩ : ByteArray), .int .i64 0, .int .i64 0, .bool false] 23 (0, 0)) from by first | exact (blk_below (g := gb276) (o := .cells #[.int .i64 0, .string (⟨#[]⟩ : ByteArray), .int .i64 0, .int .i64 0, .bool false] 23 (0, 0)) (by (with_reducible repeat (first | refine blk_drewN ?_ _ | refine blk_drew ?_ | refine blk_alloc ?_ _)); exact (Q_BK276 h0_ h1_)) hb))
          have z_BK277 := fun (h0_ : b 26 = true) (h1_ : b 29 = false) => (show w27.heap[gb277]? = some (.cells #[.int .i64 0, .string (⟨#[]⟩ : ByteArray), .int .i64 0, .int .i64 0, .bool false] 23 (0, 0)) from by first | exact (blk_below (g := gb277) (o := .cells #[.int .i64 0, .string (⟨#[]⟩ : ByteArray), .int .i64 0, .int .i64 0, .bool false] 23 (0, 0)) (by (with_reducible repeat (first | refine blk_drewN ?_ _ | refine blk_drew ?_ | refine blk_alloc ?_ _)); exact (Q_BK277 h0_ h1_)) hb))
          clear HO256
          clear HB
          have HO256 := n0_
          have HB := n1_
          clear n0_ n1_
          (try clear hb)
          (try clear hb2)
          (try clear hk)
          (try clear hi)
          refine hK.out _ _ ⟨gb275, gb276, gb277, m24_, m25_, m26_, (by rw [ha.out]; exact putSel_upk 11 hb_ rfl rfl rfl), (by (with_reducible repeat (first | apply Kd.R_alloc | apply Kd.R_drewN | apply Kd.R_drew)); exact HO256.out), (by repeat (first | (with_reducible first | exact HB.out | apply below_alloc | apply pw_below_drewN | apply below_drew1) | exact HB.out)), Q_NB276_275, Q_NB275_276, Q_NB277_275, Q_NB275_277, Q_NB277_276, Q_NB276_277, z_BK275, Q_GW275, Q_GE275, z_BK276, Q_GW276, Q_GE276, z_BK277, Q_GW277, Q_GE277, fun h0_ => absurd ((hoff 27 (by kernel_rfl)).symm.trans h0_) (by decide), fun h0_ => absurd ((hoff 28 (by kernel_rfl)).symm.trans h0_) (by decide), fun h0_ => absurd ((hoff 29 (by kernel_rfl)).symm.trans h0_) (by decide), Q_X24_, Q_X25_, Q_X26_⟩
         refine steps_cons ?_ ?_
         ·rintro b a w' ⟨gb275, gb276, gb277, m24_, m25_, m26_, ha, Q_HO256, Q_HB, Q_NB276_275, Q_NB275_276, Q_NB277_275, Q_NB275_277, Q_NB277_276, Q_NB276_277, Q_BK275, Q_GW275, Q_GE275, Q_BK276, Q_GW276, Q_GE276, Q_BK277, Q_GW277, Q_GE277, Q_BK275_e27, Q_BK276_e28, Q_BK277_e29, Q_X24_, Q_X25_, Q_X26_⟩ hb_ hon hoff
          refine ⟨_, rfl, fun K hK => ?_⟩
          have e35 : a.tmps[35]? = some (.int .i64 a2) := by rw [ha]; exact (putSel_off rfl).trans rfl
          replace ha := Aside0.mk ha
          have HO256 := Aside0.mk Q_HO256
          have HB := Aside0.mk Q_HB
          refine value_ (w1 := w') (v := .int .i64 (Int.tmod a2 18)) (by rfl) rfl ?_ ?_
          ·go_simp
           (try simp only [i64_w])
           try rfl
          refine hK.out _ _ ⟨gb275, gb276, gb277, m24_, m25_, m26_, (by rw [ha.out]; exact putSel_upk 12 hb_ rfl rfl rfl), Q_HO256, Q_HB, Q_NB276_275, Q_NB275_276, Q_NB277_275, Q_NB275_277, Q_NB277_276, Q_NB276_277, Q_BK275, Q_GW275, Q_GE275, Q_BK276, Q_GW276, Q_GE276, Q_BK277, Q_GW277, Q_GE277, fun h0_ => absurd ((hoff 27 (by kernel_rfl)).symm.trans h0_) (by decide), fun h0_ => absurd ((hoff 28 (by kernel_rfl)).symm.trans h0_) (by decide), fun h0_ => absurd ((hoff 29 (by kernel_rfl)).symm.trans h0_) (by decide), Q_X24_, Q_X25_, Q_X26_⟩
         refine steps_cons ?_ ?_
         ·rintro b a w' ⟨gb275, gb276, gb277, m24_, m25_, m26_, ha, Q_HO256, Q_HB, Q_NB276_275, Q_NB275_276, Q_NB277_275, Q_NB275_277, Q_NB277_276, Q_NB276_277, Q_BK275, Q_GW275, Q_GE275, Q_BK276, Q_GW276, Q_GE276, Q_BK277, Q_GW277, Q_GE277, Q_BK275_e27, Q_BK276_e28, Q_BK277_e29, Q_X24_, Q_X25_, Q_X26_⟩ hb_ hon hoff
          refine ⟨_, rfl, fun K hK => ?_⟩
          have e36 : a.tmps[36]? = some (.int .i64 (Int.tmod a2 18)) := by rw [ha]; exact putSel_on (e := (18, 36, .int .i64 (Int.tmod a2 18))) 12 rfl rfl (hon 18 (by kernel_rfl)) rfl
          replace ha := Aside0.mk ha
          have HO256 := Aside0.mk Q_HO256
          have HB := Aside0.mk Q_HB
          refine value_ (w1 := w') (v := .int .i64 (wrap64 ((Int.tmod a2 18) + 18))) (by rfl) rfl ?_ ?_
          ·go_simp
           (try simp only [i64_w])
           try rfl
          refine hK.out _ _ ⟨gb275, gb276, gb277, m24_, m25_, m26_, (by rw [ha.out]; exact putSel_upk 13 hb_ rfl rfl rfl), Q_HO256, Q_HB, Q_NB276_275, Q_NB275_276, Q_NB277_275, Q_NB275_277, Q_NB277_276, Q_NB276_277, Q_BK275, Q_GW275, Q_GE275, Q_BK276, Q_GW276, Q_GE276, Q_BK277, Q_GW277, Q_GE277, fun h0_ => absurd ((hoff 27 (by kernel_rfl)).symm.trans h0_) (by decide), fun h0_ => absurd ((hoff 28 (by kernel_rfl)).symm.trans h0_) (by decide), fun h0_ => absurd ((hoff 29 (by kernel_rfl)).symm.trans h0_) (by decide), Q_X24_, Q_X25_, Q_X26_⟩
         refine steps_cons ?_ ?_
         ·rintro b a w' ⟨gb275, gb276, gb277, m24_, m25_, m26_, ha, Q_HO256, Q_HB, Q_NB276_275, Q_NB275_276, Q_NB277_275, Q_NB275_277, Q_NB277_276, Q_NB276_277, Q_BK275, Q_GW275, Q_GE275, Q_BK276, Q_GW276, Q_GE276, Q_BK277, Q_GW277, Q_GE277, Q_BK275_e27, Q_BK276_e28, Q_BK277_e29, Q_X24_, Q_X25_, Q_X26_⟩ hb_ hon hoff
          refine ⟨_, rfl, fun K hK => ?_⟩
          have e37 : a.tmps[37]? = some (.int .i64 (wrap64 ((Int.tmod a2 18) + 18))) := by rw [ha]; exact putSel_on (e := (19, 37, .int .i64 (wrap64 ((Int.tmod a2 18) + 18)))) 13 rfl rfl (hon 19 (by kernel_rfl)) rfl
          replace ha := Aside0.mk ha
          have HO256 := Aside0.mk Q_HO256
          have HB := Aside0.mk Q_HB
          refine value_ (w1 := w') (v := .int .i64 ji15) (by rfl) rfl ?_ ?_
          ·go_simp
           (try simp only [i64_w])
           try rfl
          refine hK.out _ _ ⟨gb275, gb276, gb277, m24_, m25_, m26_, (by rw [ha.out]; exact putSel_upk 14 hb_ rfl rfl rfl), Q_HO256, Q_HB, Q_NB276_275, Q_NB275_276, Q_NB277_275, Q_NB275_277, Q_NB277_276, Q_NB276_277, Q_BK275, Q_GW275, Q_GE275, Q_BK276, Q_GW276, Q_GE276, Q_BK277, Q_GW277, Q_GE277, fun h0_ => absurd ((hoff 27 (by kernel_rfl)).symm.trans h0_) (by decide), fun h0_ => absurd ((hoff 28 (by kernel_rfl)).symm.trans h0_) (by decide), fun h0_ => absurd ((hoff 29 (by kernel_rfl)).symm.trans h0_) (by decide), Q_X24_, Q_X25_, Q_X26_⟩
         refine steps_cons ?_ ?_
         ·rintro b a w' ⟨gb275, gb276, gb277, m24_, m25_, m26_, ha, Q_HO256, Q_HB, Q_NB276_275, Q_NB275_276, Q_NB277_275, Q_NB275_277, Q_NB277_276, Q_NB276_277, Q_BK275, Q_GW275, Q_GE275, Q_BK276, Q_GW276, Q_GE276, Q_BK277, Q_GW277, Q_GE277, Q_BK275_e27, Q_BK276_e28, Q_BK277_e29, Q_X24_, Q_X25_, Q_X26_⟩ hb_ hon hoff
          refine ⟨_, rfl, fun K hK => ?_⟩
          have e34 : a.tmps[34]? = some (.slice (some ad257) y254.length co24) := by rw [ha]; exact (putSel_off rfl).trans rfl
          have e38 : a.tmps[38]? = some (.int .i64 ji15) := by rw [ha]; exact putSel_on (e := (20, 38, .int .i64 ji15)) 14 rfl rfl (hon 20 (by kernel_rfl)) rfl
          replace ha := Aside0.mk ha
          have HO256 := Aside0.mk Q_HO256
          have HB := Aside0.mk Q_HB
          refine value_ (w1 := w') (v := .pointer (some (ad257.add ((ji15)).toNat))) (by rfl) rfl ?_ ?_
          ·go_simp
           (try simp only [i64_w])
           try rfl
          refine hK.out _ _ ⟨gb275, gb276, gb277, m24_, m25_, m26_, (by rw [ha.out]; exact putSel_upk 15 hb_ rfl rfl rfl), Q_HO256, Q_HB, Q_NB276_275, Q_NB275_276, Q_NB277_275, Q_NB275_277, Q_NB277_276, Q_NB276_277, Q_BK275, Q_GW275, Q_GE275, Q_BK276, Q_GW276, Q_GE276, Q_BK277, Q_GW277, Q_GE277, fun h0_ => absurd ((hoff 27 (by kernel_rfl)).symm.trans h0_) (by decide), fun h0_ => absurd ((hoff 28 (by kernel_rfl)).symm.trans h0_) (by decide), fun h0_ => absurd ((hoff 29 (by kernel_rfl)).symm.trans h0_) (by decide), Q_X24_, Q_X25_, Q_X26_⟩
         refine steps_cons ?_ ?_
         ·rintro b a w' ⟨gb275, gb276, gb277, m24_, m25_, m26_, ha, Q_HO256, Q_HB, Q_NB276_275, Q_NB275_276, Q_NB277_275, Q_NB275_277, Q_NB277_276, Q_NB276_277, Q_BK275, Q_GW275, Q_GE275, Q_BK276, Q_GW276, Q_GE276, Q_BK277, Q_GW277, Q_GE277, Q_BK275_e27, Q_BK276_e28, Q_BK277_e29, Q_X24_, Q_X25_, Q_X26_⟩ hb_ hon hoff
          refine ⟨_, rfl, fun K hK => ?_⟩
          have e39 : a.tmps[39]? = some (.pointer (some (ad257.add ((ji15)).toNat))) := by rw [ha]; exact putSel_on (e := (21, 39, .pointer (some (ad257.add ((ji15)).toNat)))) 15 rfl rfl (hon 21 (by kernel_rfl)) rfl
          replace ha := Aside0.mk ha
          have HO256 := Aside0.mk Q_HO256
          have HB := Aside0.mk Q_HB
          obtain ⟨ad269_z, e269_z, hx269_0_z⟩ := Kd.at_string (Kd.R_reads' HO256.out).2.2 (ji15) (of_eq_true p269) (of_eq_true q269)
          cases e269_z
          have hs2_ : w'.cell? (ad257.add ((ji15)).toNat) = some (.string (rdOf ByteArray.empty y254 (ji15))) := (by first | exact hx269_0_z | (have h_ := hx269_0_z; (try simp only [Int.reduceToNat, Nat.zero_mul, Nat.reduceMul, Nat.reduceEqDiff, Go.Addr.add, ↓reduceIte, Addr.add_zero'] at h_); exact h_))
          refine value_ (w1 := w') (v := .string (rdOf ByteArray.empty y254 (ji15))) (by rfl) rfl ?_ ?_
          ·go_simp
           (try simp only [i64_w])
           try rfl
          refine hK.out _ _ ⟨gb275, gb276, gb277, m24_, m25_, m26_, (by rw [ha.out]; exact putSel_upk 16 hb_ rfl rfl rfl), Q_HO256, Q_HB, Q_NB276_275, Q_NB275_276, Q_NB277_275, Q_NB275_277, Q_NB277_276, Q_NB276_277, Q_BK275, Q_GW275, Q_GE275, Q_BK276, Q_GW276, Q_GE276, Q_BK277, Q_GW277, Q_GE277, fun h0_ => absurd ((hoff 27 (by kernel_rfl)).symm.trans h0_) (by decide), fun h0_ => absurd ((hoff 28 (by kernel_rfl)).symm.trans h0_) (by decide), fun h0_ => absurd ((hoff 29 (by kernel_rfl)).symm.trans h0_) (by decide), Q_X24_, Q_X25_, Q_X26_⟩
         refine steps_cons ?_ ?_
         ·rintro b a w' ⟨gb275, gb276, gb277, m24_, m25_, m26_, ha, Q_HO256, Q_HB, Q_NB276_275, Q_NB275_276, Q_NB277_275, Q_NB275_277, Q_NB277_276, Q_NB276_277, Q_BK275, Q_GW275, Q_GE275, Q_BK276, Q_GW276, Q_GE276, Q_BK277, Q_GW277, Q_GE277, Q_BK275_e27, Q_BK276_e28, Q_BK277_e29, Q_X24_, Q_X25_, Q_X26_⟩ hb_ hon hoff
          refine ⟨_, rfl, fun K hK => ?_⟩
          have e40 : a.tmps[40]? = some (.string (rdOf ByteArray.empty y254 (ji15))) := by rw [ha]; exact putSel_on (e := (22, 40, .string (rdOf ByteArray.empty y254 (ji15)))) 16 rfl rfl (hon 22 (by kernel_rfl)) rfl
          replace ha := Aside0.mk ha
          have HO256 := Aside0.mk Q_HO256
          have HB := Aside0.mk Q_HB
          refine goes_ Try.func19 (by kernel_rfl) rfl #[.string (rdOf ByteArray.empty y254 (ji15))] (by rfl) rfl rfl (by first | (simp only [List.map_toArray, List.map_cons, List.map_nil, Act.eval, Array.getD_eq_getD_getElem?, Option.getD_some, e40]; done) | (simp only [List.map_toArray, List.map_cons, List.map_nil, Act.eval, Array.getD_eq_getD_getElem?, Option.getD_some, e40]; rfl)) ?_
          with_reducible refine (recensionlaw5_op.calls (rdOf ByteArray.empty y254 (ji15)) t270 t271 t272 t273 t274 _ A18.out).mono ?_
          rintro e w28 ⟨rfl, hb⟩
          refine ⟨_, rfl, ?_⟩
          have n0_ := Aside0.mk (Kd.R_below (by (with_reducible repeat (first | apply Kd.R_alloc | apply Kd.R_drewN | apply Kd.R_drew)); exact HO256.out) hb)
          have n1_ := Aside0.mk (below_step (by repeat (first | (with_reducible first | exact HB.out | apply below_alloc | apply pw_below_drewN | apply below_drew1) | exact HB.out)) hb)
          have z_BK275 := fun (h0_ : b 24 = true) (h1_ : b 27 = false) => (show w28.heap[gb275]? = some (.cells #[.int .i64 0, .string (⟨#[]⟩ : ByteArray), .int .i64 0, .int .i64 0, .bool false] 23 (0, 0)) from by first | exact (blk_below (g := gb275) (o := .cells #[.int .i64 0, .string (⟨#[]⟩ : ByteArray), .int .i64 0, .int .i64 0, .bool false] 23 (0, 0)) (by (with_reducible repeat (first | refine blk_drewN ?_ _ | refine blk_drew ?_ | refine blk_alloc ?_ _)); exact (Q_BK275 h0_ h1_)) hb))
          have z_BK276 := fun (h0_ : b 25 = true) (h1_ : b 28 = false) => (show w28.heap[gb276]? = some (.cells #[.int .i64 0, .string (⟨#[]⟩ : ByteArray), .int .i64 0, .int .i64 0, .bool false] 23 (0, 0)) from by first | exact (blk_below (g := gb276) (o := .cells #[.int .i64 0, .string (⟨#[]⟩ : ByteArray), .int .i64 0, .int .i64 0, .bool false] 23 (0, 0)) (by (with_reducible repeat (first | refine blk_drewN ?_ _ | refine blk_drew ?_ | refine blk_alloc ?_ _)); exact (Q_BK276 h0_ h1_)) hb))
          have z_BK277 := fun (h0_ : b 26 = true) (h1_ : b 29 = false) => (show w28.heap[gb277]? = some (.cells #[.int .i64 0, .string (⟨#[]⟩ : ByteArray), .int .i64 0, .int .i64 0, .bool false] 23 (0, 0)) from by first | exact (blk_below (g := gb277) (o := .cells #[.int .i64 0, .string (⟨#[]⟩ : ByteArray), .int .i64 0, .int .i64 0, .bool false] 23 (0, 0)) (by (with_reducible repeat (first | refine blk_drewN ?_ _ | refine blk_drew ?_ | refine blk_alloc ?_ _)); exact (Q_BK277 h0_ h1_)) hb))
          clear HO256
          clear HB
          have HO256 := n0_
          have HB := n1_
          clear n0_ n1_
          (try clear hb)
          (try clear hb2)
          (try clear hk)
          (try clear hi)
          refine hK.out _ _ ⟨gb275, gb276, gb277, m24_, m25_, m26_, (by rw [ha.out]; exact putSel_upk 17 hb_ rfl rfl rfl), (by (with_reducible repeat (first | apply Kd.R_alloc | apply Kd.R_drewN | apply Kd.R_drew)); exact HO256.out), (by repeat (first | (with_reducible first | exact HB.out | apply below_alloc | apply pw_below_drewN | apply below_drew1) | exact HB.out)), Q_NB276_275, Q_NB275_276, Q_NB277_275, Q_NB275_277, Q_NB277_276, Q_NB276_277, z_BK275, Q_GW275, Q_GE275, z_BK276, Q_GW276, Q_GE276, z_BK277, Q_GW277, Q_GE277, fun h0_ => absurd ((hoff 27 (by kernel_rfl)).symm.trans h0_) (by decide), fun h0_ => absurd ((hoff 28 (by kernel_rfl)).symm.trans h0_) (by decide), fun h0_ => absurd ((hoff 29 (by kernel_rfl)).symm.trans h0_) (by decide), Q_X24_, Q_X25_, Q_X26_⟩
         refine steps_cons ?_ ?_
         ·rintro b a w' ⟨gb275, gb276, gb277, m24_, m25_, m26_, ha, Q_HO256, Q_HB, Q_NB276_275, Q_NB275_276, Q_NB277_275, Q_NB275_277, Q_NB277_276, Q_NB276_277, Q_BK275, Q_GW275, Q_GE275, Q_BK276, Q_GW276, Q_GE276, Q_BK277, Q_GW277, Q_GE277, Q_BK275_e27, Q_BK276_e28, Q_BK277_e29, Q_X24_, Q_X25_, Q_X26_⟩ hb_ hon hoff
          refine ⟨_, rfl, fun K hK => ?_⟩
          replace ha := Aside0.mk ha
          have HO256 := Aside0.mk Q_HO256
          have HB := Aside0.mk Q_HB
          refine box_step ?hg (N := 11) ?hd (cs := #[.int .i64 0, .string (⟨#[]⟩ : ByteArray), .int .i64 0, .int .i64 0, .bool false]) (t := 23) ?hr ?_; (case hd => rfl); (case hg => rfl); (case hr => first | (go_simp; done) | (go_simp; rfl))
          intro gb275 hg w25 hbox hb
          have n0_ := Aside0.mk (Kd.R_below (by (with_reducible repeat (first | apply Kd.R_alloc | apply Kd.R_drewN | apply Kd.R_drew)); exact HO256.out) hb)
          have n1_ := Aside0.mk (below_step (by repeat (first | (with_reducible first | exact HB.out | apply below_alloc | apply pw_below_drewN | apply below_drew1) | exact HB.out)) hb)
          have n2_ := Aside0.mk (hbox)
          have n3_ := Aside0.mk ((by rw [hg]; exact (below_size (by repeat (first | (with_reducible first | exact HB.out | apply below_alloc | apply pw_below_drewN | apply below_drew1) | exact HB.out))) : w.heap.size ≤ gb275))
          have n4_ := Aside0.mk ((by rw [hg]; exact (below_size (by repeat (first | (with_reducible first | exact HB.out | apply below_alloc | apply pw_below_drewN | apply below_drew1) | exact HB.out))) : w.heap.size ≤ gb275))
          have z_NB276_275 := fun (h0_ : up b 24 24 = true) (h1_ : up b 24 25 = true) => (show gb276 ≠ gb275 from ((by rw [hg]; exact Nat.ne_of_lt (blk_lt (g := gb276) (o := .cells #[.int .i64 0, .string (⟨#[]⟩ : ByteArray), .int .i64 0, .int .i64 0, .bool false] 23 (0, 0)) (by (with_reducible repeat (first | refine blk_drewN ?_ _ | refine blk_drew ?_ | refine blk_alloc ?_ _)); exact (Q_BK276 ((up_ne (b := b) (i := 24) (j := 25) (by decide)).symm.trans h1_) (hoff 28 (by kernel_rfl))))) : gb276 ≠ gb275)))
          have z_NB275_276 := fun (h0_ : up b 24 24 = true) (h1_ : up b 24 25 = true) => (show gb275 ≠ gb276 from ((by rw [hg]; exact Nat.ne_of_gt (blk_lt (g := gb276) (o := .cells #[.int .i64 0, .string (⟨#[]⟩ : ByteArray), .int .i64 0, .int .i64 0, .bool false] 23 (0, 0)) (by (with_reducible repeat (first | refine blk_drewN ?_ _ | refine blk_drew ?_ | refine blk_alloc ?_ _)); exact (Q_BK276 ((up_ne (b := b) (i := 24) (j := 25) (by decide)).symm.trans h1_) (hoff 28 (by kernel_rfl))))) : gb275 ≠ gb276)))
          have z_NB277_275 := fun (h0_ : up b 24 24 = true) (h1_ : up b 24 26 = true) => (show gb277 ≠ gb275 from ((by rw [hg]; exact Nat.ne_of_lt (blk_lt (g := gb277) (o := .cells #[.int .i64 0, .string (⟨#[]⟩ : ByteArray), .int .i64 0, .int .i64 0, .bool false] 23 (0, 0)) (by (with_reducible repeat (first | refine blk_drewN ?_ _ | refine blk_drew ?_ | refine blk_alloc ?_ _)); exact (Q_BK277 ((up_ne (b := b) (i := 24) (j := 26) (by decide)).symm.trans h1_) (hoff 29 (by kernel_rfl))))) : gb277 ≠ gb275)))
          have z_NB275_277 := fun (h0_ : up b 24 24 = true) (h1_ : up b 24 26 = true) => (show gb275 ≠ gb277 from ((by rw [hg]; exact Nat.ne_of_gt (blk_lt (g := gb277) (o := .cells #[.int .i64 0, .string (⟨#[]⟩ : ByteArray), .int .i64 0, .int .i64 0, .bool false] 23 (0, 0)) (by (with_reducible repeat (first | refine blk_drewN ?_ _ | refine blk_drew ?_ | refine blk_alloc ?_ _)); exact (Q_BK277 ((up_ne (b := b) (i := 24) (j := 26) (by decide)).symm.trans h1_) (hoff 29 (by kernel_rfl))))) : gb275 ≠ gb277)))
          have z_BK276 := fun (h0_ : b 25 = true) (h1_ : b 28 = false) => (show w25.heap[gb276]? = some (.cells #[.int .i64 0, .string (⟨#[]⟩ : ByteArray), .int .i64 0, .int .i64 0, .bool false] 23 (0, 0)) from by first | exact (blk_below (g := gb276) (o := .cells #[.int .i64 0, .string (⟨#[]⟩ : ByteArray), .int .i64 0, .int .i64 0, .bool false] 23 (0, 0)) (by (with_reducible repeat (first | refine blk_drewN ?_ _ | refine blk_drew ?_ | refine blk_alloc ?_ _)); exact (Q_BK276 h0_ h1_)) hb))
          have z_BK277 := fun (h0_ : b 26 = true) (h1_ : b 29 = false) => (show w25.heap[gb277]? = some (.cells #[.int .i64 0, .string (⟨#[]⟩ : ByteArray), .int .i64 0, .int .i64 0, .bool false] 23 (0, 0)) from by first | exact (blk_below (g := gb277) (o := .cells #[.int .i64 0, .string (⟨#[]⟩ : ByteArray), .int .i64 0, .int .i64 0, .bool false] 23 (0, 0)) (by (with_reducible repeat (first | refine blk_drewN ?_ _ | refine blk_drew ?_ | refine blk_alloc ?_ _)); exact (Q_BK277 h0_ h1_)) hb))
          clear HO256
          clear HB
          have HO256 := n0_
          have HB := n1_
          have BK275 := n2_
          have GW275 := n3_
          have GE275 := n4_
          clear n0_ n1_ n2_ n3_ n4_
          clear hb hbox hg
          refine hK.out _ _ ⟨gb275, gb276, gb277, (.pointer (some ⟨gb275, 0, none⟩)), m25_, m26_, (by rw [ha.out]; exact putSel_upk 18 hb_ rfl rfl rfl), (by (with_reducible repeat (first | apply Kd.R_alloc | apply Kd.R_drewN | apply Kd.R_drew)); exact HO256.out), (by repeat (first | (with_reducible first | exact HB.out | apply below_alloc | apply pw_below_drewN | apply below_drew1 | refine below_set ?_ GE275.out) | exact HB.out)), z_NB276_275, z_NB275_276, z_NB277_275, z_NB275_277, Q_NB277_276, Q_NB276_277, fun _ _ => (by (with_reducible repeat (first | refine blk_drewN ?_ _ | refine blk_drew ?_ | refine blk_alloc ?_ _)); exact BK275.out), fun _ => GW275.out, fun _ => GE275.out, z_BK276, Q_GW276, Q_GE276, z_BK277, Q_GW277, Q_GE277, fun h0_ => absurd ((hoff 27 (by kernel_rfl)).symm.trans h0_) (by decide), fun h0_ => absurd ((hoff 28 (by kernel_rfl)).symm.trans h0_) (by decide), fun h0_ => absurd ((hoff 29 (by kernel_rfl)).symm.trans h0_) (by decide), fun _ => rfl, Q_X25_, Q_X26_⟩
         refine steps_cons ?_ ?_
         ·rintro b a w' ⟨gb275, gb276, gb277, m24_, m25_, m26_, ha, Q_HO256, Q_HB, Q_NB276_275, Q_NB275_276, Q_NB277_275, Q_NB275_277, Q_NB277_276, Q_NB276_277, Q_BK275, Q_GW275, Q_GE275, Q_BK276, Q_GW276, Q_GE276, Q_BK277, Q_GW277, Q_GE277, Q_BK275_e27, Q_BK276_e28, Q_BK277_e29, Q_X24_, Q_X25_, Q_X26_⟩ hb_ hon hoff
          refine ⟨_, rfl, fun K hK => ?_⟩
          replace ha := Aside0.mk ha
          have HO256 := Aside0.mk Q_HO256
          have HB := Aside0.mk Q_HB
          refine box_step ?hg (N := 12) ?hd (cs := #[.int .i64 0, .string (⟨#[]⟩ : ByteArray), .int .i64 0, .int .i64 0, .bool false]) (t := 23) ?hr ?_; (case hd => rfl); (case hg => rfl); (case hr => first | (go_simp; done) | (go_simp; rfl))
          intro gb276 hg w25 hbox hb
          have n0_ := Aside0.mk (Kd.R_below (by (with_reducible repeat (first | apply Kd.R_alloc | apply Kd.R_drewN | apply Kd.R_drew)); exact HO256.out) hb)
          have n1_ := Aside0.mk (below_step (by repeat (first | (with_reducible first | exact HB.out | apply below_alloc | apply pw_below_drewN | apply below_drew1) | exact HB.out)) hb)
          have n2_ := Aside0.mk (hbox)
          have n3_ := Aside0.mk ((by rw [hg]; exact (below_size (by repeat (first | (with_reducible first | exact HB.out | apply below_alloc | apply pw_below_drewN | apply below_drew1) | exact HB.out))) : w.heap.size ≤ gb276))
          have n4_ := Aside0.mk ((by rw [hg]; exact (below_size (by repeat (first | (with_reducible first | exact HB.out | apply below_alloc | apply pw_below_drewN | apply below_drew1) | exact HB.out))) : w.heap.size ≤ gb276))
          have z_NB276_275 := fun (h0_ : up b 25 24 = true) (h1_ : up b 25 25 = true) => (show gb276 ≠ gb275 from ((by rw [hg]; exact Nat.ne_of_gt (blk_lt (g := gb275) (o := .cells #[.int .i64 0, .string (⟨#[]⟩ : ByteArray), .int .i64 0, .int .i64 0, .bool false] 23 (0, 0)) (by (with_reducible repeat (first | refine blk_drewN ?_ _ | refine blk_drew ?_ | refine blk_alloc ?_ _)); exact (Q_BK275 ((up_ne (b := b) (i := 25) (j := 24) (by decide)).symm.trans h0_) (hoff 27 (by kernel_rfl))))) : gb276 ≠ gb275)))
          have z_NB275_276 := fun (h0_ : up b 25 24 = true) (h1_ : up b 25 25 = true) => (show gb275 ≠ gb276 from ((by rw [hg]; exact Nat.ne_of_lt (blk_lt (g := gb275) (o := .cells #[.int .i64 0, .string (⟨#[]⟩ : ByteArray), .int .i64 0, .int .i64 0, .bool false] 23 (0, 0)) (by (with_reducible repeat (first | refine blk_drewN ?_ _ | refine blk_drew ?_ | refine blk_alloc ?_ _)); exact (Q_BK275 ((up_ne (b := b) (i := 25) (j := 24) (by decide)).symm.trans h0_) (hoff 27 (by kernel_rfl))))) : gb275 ≠ gb276)))
          have z_NB277_276 := fun (h0_ : up b 25 25 = true) (h1_ : up b 25 26 = true) => (show gb277 ≠ gb276 from ((by rw [hg]; exact Nat.ne_of_lt (blk_lt (g := gb277) (o := .cells #[.int .i64 0, .string (⟨#[]⟩ : ByteArray), .int .i64 0, .int .i64 0, .bool false] 23 (0, 0)) (by (with_reducible repeat (first | refine blk_drewN ?_ _ | refine blk_drew ?_ | refine blk_alloc ?_ _)); exact (Q_BK277 ((up_ne (b := b) (i := 25) (j := 26) (by decide)).symm.trans h1_) (hoff 29 (by kernel_rfl))))) : gb277 ≠ gb276)))
          have z_NB276_277 := fun (h0_ : up b 25 25 = true) (h1_ : up b 25 26 = true) => (show gb276 ≠ gb277 from ((by rw [hg]; exact Nat.ne_of_gt (blk_lt (g := gb277) (o := .cells #[.int .i64 0, .string (⟨#[]⟩ : ByteArray), .int .i64 0, .int .i64 0, .bool false] 23 (0, 0)) (by (with_reducible repeat (first | refine blk_drewN ?_ _ | refine blk_drew ?_ | refine blk_alloc ?_ _)); exact (Q_BK277 ((up_ne (b := b) (i := 25) (j := 26) (by decide)).symm.trans h1_) (hoff 29 (by kernel_rfl))))) : gb276 ≠ gb277)))
          have z_BK275 := fun (h0_ : b 24 = true) (h1_ : b 27 = false) => (show w25.heap[gb275]? = some (.cells #[.int .i64 0, .string (⟨#[]⟩ : ByteArray), .int .i64 0, .int .i64 0, .bool false] 23 (0, 0)) from by first | exact (blk_below (g := gb275) (o := .cells #[.int .i64 0, .string (⟨#[]⟩ : ByteArray), .int .i64 0, .int .i64 0, .bool false] 23 (0, 0)) (by (with_reducible repeat (first | refine blk_drewN ?_ _ | refine blk_drew ?_ | refine blk_alloc ?_ _)); exact (Q_BK275 h0_ h1_)) hb))
          have z_BK277 := fun (h0_ : b 26 = true) (h1_ : b 29 = false) => (show w25.heap[gb277]? = some (.cells #[.int .i64 0, .string (⟨#[]⟩ : ByteArray), .int .i64 0, .int .i64 0, .bool false] 23 (0, 0)) from by first | exact (blk_below (g := gb277) (o := .cells #[.int .i64 0, .string (⟨#[]⟩ : ByteArray), .int .i64 0, .int .i64 0, .bool false] 23 (0, 0)) (by (with_reducible repeat (first | refine blk_drewN ?_ _ | refine blk_drew ?_ | refine blk_alloc ?_ _)); exact (Q_BK277 h0_ h1_)) hb))
          clear HO256
          clear HB
          have HO256 := n0_
          have HB := n1_
          have BK276 := n2_
          have GW276 := n3_
          have GE276 := n4_
          clear n0_ n1_ n2_ n3_ n4_
          clear hb hbox hg
          refine hK.out _ _ ⟨gb275, gb276, gb277, m24_, (.pointer (some ⟨gb276, 0, none⟩)), m26_, (by rw [ha.out]; exact putSel_upk 19 hb_ rfl rfl rfl), (by (with_reducible repeat (first | apply Kd.R_alloc | apply Kd.R_drewN | apply Kd.R_drew)); exact HO256.out), (by repeat (first | (with_reducible first | exact HB.out | apply below_alloc | apply pw_below_drewN | apply below_drew1 | refine below_set ?_ GE276.out) | exact HB.out)), z_NB276_275, z_NB275_276, Q_NB277_275, Q_NB275_277, z_NB277_276, z_NB276_277, z_BK275, Q_GW275, Q_GE275, fun _ _ => (by (with_reducible repeat (first | refine blk_drewN ?_ _ | refine blk_drew ?_ | refine blk_alloc ?_ _)); exact BK276.out), fun _ => GW276.out, fun _ => GE276.out, z_BK277, Q_GW277, Q_GE277, fun h0_ => absurd ((hoff 27 (by kernel_rfl)).symm.trans h0_) (by decide), fun h0_ => absurd ((hoff 28 (by kernel_rfl)).symm.trans h0_) (by decide), fun h0_ => absurd ((hoff 29 (by kernel_rfl)).symm.trans h0_) (by decide), Q_X24_, fun _ => rfl, Q_X26_⟩
         refine steps_cons ?_ ?_
         ·rintro b a w' ⟨gb275, gb276, gb277, m24_, m25_, m26_, ha, Q_HO256, Q_HB, Q_NB276_275, Q_NB275_276, Q_NB277_275, Q_NB275_277, Q_NB277_276, Q_NB276_277, Q_BK275, Q_GW275, Q_GE275, Q_BK276, Q_GW276, Q_GE276, Q_BK277, Q_GW277, Q_GE277, Q_BK275_e27, Q_BK276_e28, Q_BK277_e29, Q_X24_, Q_X25_, Q_X26_⟩ hb_ hon hoff
          refine ⟨_, rfl, fun K hK => ?_⟩
          replace ha := Aside0.mk ha
          have HO256 := Aside0.mk Q_HO256
          have HB := Aside0.mk Q_HB
          refine box_step ?hg (N := 13) ?hd (cs := #[.int .i64 0, .string (⟨#[]⟩ : ByteArray), .int .i64 0, .int .i64 0, .bool false]) (t := 23) ?hr ?_; (case hd => rfl); (case hg => rfl); (case hr => first | (go_simp; done) | (go_simp; rfl))
          intro gb277 hg w25 hbox hb
          have n0_ := Aside0.mk (Kd.R_below (by (with_reducible repeat (first | apply Kd.R_alloc | apply Kd.R_drewN | apply Kd.R_drew)); exact HO256.out) hb)
          have n1_ := Aside0.mk (below_step (by repeat (first | (with_reducible first | exact HB.out | apply below_alloc | apply pw_below_drewN | apply below_drew1) | exact HB.out)) hb)
          have n2_ := Aside0.mk (hbox)
          have n3_ := Aside0.mk ((by rw [hg]; exact (below_size (by repeat (first | (with_reducible first | exact HB.out | apply below_alloc | apply pw_below_drewN | apply below_drew1) | exact HB.out))) : w.heap.size ≤ gb277))
          have n4_ := Aside0.mk ((by rw [hg]; exact (below_size (by repeat (first | (with_reducible first | exact HB.out | apply below_alloc | apply pw_below_drewN | apply below_drew1) | exact HB.out))) : w.heap.size ≤ gb277))
          have z_NB277_275 := fun (h0_ : up b 26 24 = true) (h1_ : up b 26 26 = true) => (show gb277 ≠ gb275 from ((by rw [hg]; exact Nat.ne_of_gt (blk_lt (g := gb275) (o := .cells #[.int .i64 0, .string (⟨#[]⟩ : ByteArray), .int .i64 0, .int .i64 0, .bool false] 23 (0, 0)) (by (with_reducible repeat (first | refine blk_drewN ?_ _ | refine blk_drew ?_ | refine blk_alloc ?_ _)); exact (Q_BK275 ((up_ne (b := b) (i := 26) (j := 24) (by decide)).symm.trans h0_) (hoff 27 (by kernel_rfl))))) : gb277 ≠ gb275)))
          have z_NB275_277 := fun (h0_ : up b 26 24 = true) (h1_ : up b 26 26 = true) => (show gb275 ≠ gb277 from ((by rw [hg]; exact Nat.ne_of_lt (blk_lt (g := gb275) (o := .cells #[.int .i64 0, .string (⟨#[]⟩ : ByteArray), .int .i64 0, .int .i64 0, .bool false] 23 (0, 0)) (by (with_reducible repeat (first | refine blk_drewN ?_ _ | refine blk_drew ?_ | refine blk_alloc ?_ _)); exact (Q_BK275 ((up_ne (b := b) (i := 26) (j := 24) (by decide)).symm.trans h0_) (hoff 27 (by kernel_rfl))))) : gb275 ≠ gb277)))
          have z_NB277_276 := fun (h0_ : up b 26 25 = true) (h1_ : up b 26 26 = true) => (show gb277 ≠ gb276 from ((by rw [hg]; exact Nat.ne_of_gt (blk_lt (g := gb276) (o := .cells #[.int .i64 0, .string (⟨#[]⟩ : ByteArray), .int .i64 0, .int .i64 0, .bool false] 23 (0, 0)) (by (with_reducible repeat (first | refine blk_drewN ?_ _ | refine blk_drew ?_ | refine blk_alloc ?_ _)); exact (Q_BK276 ((up_ne (b := b) (i := 26) (j := 25) (by decide)).symm.trans h0_) (hoff 28 (by kernel_rfl))))) : gb277 ≠ gb276)))
          have z_NB276_277 := fun (h0_ : up b 26 25 = true) (h1_ : up b 26 26 = true) => (show gb276 ≠ gb277 from ((by rw [hg]; exact Nat.ne_of_lt (blk_lt (g := gb276) (o := .cells #[.int .i64 0, .string (⟨#[]⟩ : ByteArray), .int .i64 0, .int .i64 0, .bool false] 23 (0, 0)) (by (with_reducible repeat (first | refine blk_drewN ?_ _ | refine blk_drew ?_ | refine blk_alloc ?_ _)); exact (Q_BK276 ((up_ne (b := b) (i := 26) (j := 25) (by decide)).symm.trans h0_) (hoff 28 (by kernel_rfl))))) : gb276 ≠ gb277)))
          have z_BK275 := fun (h0_ : b 24 = true) (h1_ : b 27 = false) => (show w25.heap[gb275]? = some (.cells #[.int .i64 0, .string (⟨#[]⟩ : ByteArray), .int .i64 0, .int .i64 0, .bool false] 23 (0, 0)) from by first | exact (blk_below (g := gb275) (o := .cells #[.int .i64 0, .string (⟨#[]⟩ : ByteArray), .int .i64 0, .int .i64 0, .bool false] 23 (0, 0)) (by (with_reducible repeat (first | refine blk_drewN ?_ _ | refine blk_drew ?_ | refine blk_alloc ?_ _)); exact (Q_BK275 h0_ h1_)) hb))
          have z_BK276 := fun (h0_ : b 25 = true) (h1_ : b 28 = false) => (show w25.heap[gb276]? = some (.cells #[.int .i64 0, .string (⟨#[]⟩ : ByteArray), .int .i64 0, .int .i64 0, .bool false] 23 (0, 0)) from by first | exact (blk_below (g := gb276) (o := .cells #[.int .i64 0, .string (⟨#[]⟩ : ByteArray), .int .i64 0, .int .i64 0, .bool false] 23 (0, 0)) (by (with_reducible repeat (first | refine blk_drewN ?_ _ | refine blk_drew ?_ | refine blk_alloc ?_ _)); exact (Q_BK276 h0_ h1_)) hb))
          clear HO256
          clear HB
          have HO256 := n0_
          have HB := n1_
          have BK277 := n2_
          have GW277 := n3_
          have GE277 := n4_
          clear n0_ n1_ n2_ n3_ n4_
          clear hb hbox hg
          refine hK.out _ _ ⟨gb275, gb276, gb277, m24_, m25_, (.pointer (some ⟨gb277, 0, none⟩)), (by rw [ha.out]; exact putSel_upk 20 hb_ rfl rfl rfl), (by (with_reducible repeat (first | apply Kd.R_alloc | apply Kd.R_drewN | apply Kd.R_drew)); exact HO256.out), (by repeat (first | (with_reducible first | exact HB.out | apply below_alloc | apply pw_below_drewN | apply below_drew1 | refine below_set ?_ GE277.out) | exact HB.out)), Q_NB276_275, Q_NB275_276, z_NB277_275, z_NB275_277, z_NB277_276, z_NB276_277, z_BK275, Q_GW275, Q_GE275, z_BK276, Q_GW276, Q_GE276, fun _ _ => (by (with_reducible repeat (first | refine blk_drewN ?_ _ | refine blk_drew ?_ | refine blk_alloc ?_ _)); exact BK277.out), fun _ => GW277.out, fun _ => GE277.out, fun h0_ => absurd ((hoff 27 (by kernel_rfl)).symm.trans h0_) (by decide), fun h0_ => absurd ((hoff 28 (by kernel_rfl)).symm.trans h0_) (by decide), fun h0_ => absurd ((hoff 29 (by kernel_rfl)).symm.trans h0_) (by decide), Q_X24_, Q_X25_, fun _ => rfl⟩
         refine steps_cons ?_ ?_
         ·rintro b a w' ⟨gb275, gb276, gb277, m24_, m25_, m26_, ha, Q_HO256, Q_HB, Q_NB276_275, Q_NB275_276, Q_NB277_275, Q_NB275_277, Q_NB277_276, Q_NB276_277, Q_BK275, Q_GW275, Q_GE275, Q_BK276, Q_GW276, Q_GE276, Q_BK277, Q_GW277, Q_GE277, Q_BK275_e27, Q_BK276_e28, Q_BK277_e29, Q_X24_, Q_X25_, Q_X26_⟩ hb_ hon hoff
          refine ⟨_, rfl, fun K hK => ?_⟩
          have e11 : a.tmps[11]? = some (m24_) := by rw [ha]; exact putSel_on (e := (24, 11, m24_)) 18 rfl rfl (hon 24 (by kernel_rfl)) rfl
          rw [Q_X24_ (hon 24 (by kernel_rfl))] at e11
          have e25 : a.tmps[25]? = some (.agg #[.int .i64 t258, .string t259, .int .i64 t260, .int .i64 t261, .bool t262]) := by rw [ha]; exact putSel_on (e := (7, 25, .agg #[.int .i64 t258, .string t259, .int .i64 t260, .int .i64 t261, .bool t262])) 5 rfl rfl (hon 7 (by kernel_rfl)) rfl
          replace ha := Aside0.mk ha
          have HO256 := Aside0.mk Q_HO256
          have HB := Aside0.mk Q_HB
          have NB276_275 := Aside0.mk (Q_NB276_275 (hon 24 (by kernel_rfl)) (hon 25 (by kernel_rfl)))
          have NB275_276 := Aside0.mk (Q_NB275_276 (hon 24 (by kernel_rfl)) (hon 25 (by kernel_rfl)))
          have NB277_275 := Aside0.mk (Q_NB277_275 (hon 24 (by kernel_rfl)) (hon 26 (by kernel_rfl)))
          have NB275_277 := Aside0.mk (Q_NB275_277 (hon 24 (by kernel_rfl)) (hon 26 (by kernel_rfl)))
          have NB277_276 := Aside0.mk (Q_NB277_276 (hon 25 (by kernel_rfl)) (hon 26 (by kernel_rfl)))
          have NB276_277 := Aside0.mk (Q_NB276_277 (hon 25 (by kernel_rfl)) (hon 26 (by kernel_rfl)))
          have BK275 := Aside0.mk (Q_BK275 (hon 24 (by kernel_rfl)) hb_)
          have GW275 := Aside0.mk (Q_GW275 (hon 24 (by kernel_rfl)))
          have GE275 := Aside0.mk (Q_GE275 (hon 24 (by kernel_rfl)))
          have BK276 := Aside0.mk (Q_BK276 (hon 25 (by kernel_rfl)) (hoff 28 (by kernel_rfl)))
          have GW276 := Aside0.mk (Q_GW276 (hon 25 (by kernel_rfl)))
          have GE276 := Aside0.mk (Q_GE276 (hon 25 (by kernel_rfl)))
          have BK277 := Aside0.mk (Q_BK277 (hon 26 (by kernel_rfl)) (hoff 29 (by kernel_rfl)))
          have GW277 := Aside0.mk (Q_GW277 (hon 26 (by kernel_rfl)))
          have GE277 := Aside0.mk (Q_GE277 (hon 26 (by kernel_rfl)))
          have hs32 : w'.cell? ⟨gb275, 0, none⟩ = some (.int .i64 0) := (blk_cell BK275.out 0).trans rfl
          have hfs32 := blk_frozen BK275.out 0
          have hns32_1 := NB276_275.out
          have hns32_2 := NB277_275.out
          have hms32_1 := NB275_276.out
          have hms32_2 := NB275_277.out
          have hs33 : w'.cell? ⟨gb275, 1, none⟩ = some (.string (⟨#[]⟩ : ByteArray)) := (blk_cell BK275.out 1).trans rfl
          have hfs33 := blk_frozen BK275.out 1
          have hns33_1 := NB276_275.out
          have hns33_2 := NB277_275.out
          have hms33_1 := NB275_276.out
          have hms33_2 := NB275_277.out
          have hs34 : w'.cell? ⟨gb275, 2, none⟩ = some (.int .i64 0) := (blk_cell BK275.out 2).trans rfl
          have hfs34 := blk_frozen BK275.out 2
          have hns34_1 := NB276_275.out
          have hns34_2 := NB277_275.out
          have hms34_1 := NB275_276.out
          have hms34_2 := NB275_277.out
          have hs35 : w'.cell? ⟨gb275, 3, none⟩ = some (.int .i64 0) := (blk_cell BK275.out 3).trans rfl
          have hfs35 := blk_frozen BK275.out 3
          have hns35_1 := NB276_275.out
          have hns35_2 := NB277_275.out
          have hms35_1 := NB275_276.out
          have hms35_2 := NB275_277.out
          have hs36 : w'.cell? ⟨gb275, 4, none⟩ = some (.bool false) := (blk_cell BK275.out 4).trans rfl
          have hfs36 := blk_frozen BK275.out 4
          have hns36_1 := NB276_275.out
          have hns36_2 := NB277_275.out
          have hms36_1 := NB275_276.out
          have hms36_2 := NB275_277.out
          refine skip_ (w1 := ?_) ?_ ?_ ?_ ?_
          rotate_left
          ·rfl
          ·rfl
          ·go_simp
           rfl
          refine hK.out _ _ ⟨gb275, gb276, gb277, m24_, m25_, m26_, (by rw [ha.out]; exact putSel_none (v := undef) rfl), (by (with_reducible repeat (first | apply Kd.R_alloc | apply Kd.R_drewN | apply Kd.R_drew)); exact Kd.R_mono (Kd.R_far (p := ⟨gb275, 4, none⟩) (Kd.R_far (p := ⟨gb275, 3, none⟩) (Kd.R_far (p := ⟨gb275, 2, none⟩) (Kd.R_far (p := ⟨gb275, 1, none⟩) (Kd.R_far (p := ⟨gb275, 0, none⟩) (Kd.R_types HO256.out BK275.out (by decide)) (fun _ hk => hk.2) (.int .i64 t258)) (fun _ hk => hk.2) (.string t259)) (fun _ hk => hk.2) (.int .i64 t260)) (fun _ hk => hk.2) (.int .i64 t261)) (fun _ hk => hk.2) (.bool t262)) (fun _ hk => by first | exact trivial | ((try simp only [and_assoc] at hk); (try simp only [and_assoc]); exact trivial))), (by repeat (first | (with_reducible first | exact HB.out | apply below_alloc | apply pw_below_drewN | apply below_drew1 | refine below_set ?_ GE275.out | refine below_set ?_ GE276.out | refine below_set ?_ GE277.out) | exact HB.out)), fun _ _ => NB276_275.out, fun _ _ => NB275_276.out, fun _ _ => NB277_275.out, fun _ _ => NB275_277.out, fun _ _ => NB277_276.out, fun _ _ => NB276_277.out, fun _ h1_ => absurd ((up_self b 27).symm.trans h1_) (by decide), fun _ => GW275.out, fun _ => GE275.out, fun _ _ => (by (with_reducible repeat (first | refine blk_drewN ?_ _ | refine blk_drew ?_ | refine blk_alloc ?_ _)); refine blk_far ?_ NB276_275.out _; (with_reducible repeat (first | refine blk_drewN ?_ _ | refine blk_drew ?_ | refine blk_alloc ?_ _)); refine blk_far ?_ NB276_275.out _; (with_reducible repeat (first | refine blk_drewN ?_ _ | refine blk_drew ?_ | refine blk_alloc ?_ _)); refine blk_far ?_ NB276_275.out _; (with_reducible repeat (first | refine blk_drewN ?_ _ | refine blk_drew ?_ | refine blk_alloc ?_ _)); refine blk_far ?_ NB276_275.out _; (with_reducible repeat (first | refine blk_drewN ?_ _ | refine blk_drew ?_ | refine blk_alloc ?_ _)); refine blk_far ?_ NB276_275.out _; (with_reducible repeat (first | refine blk_drewN ?_ _ | refine blk_drew ?_ | refine blk_alloc ?_ _)); exact BK276.out), fun _ => GW276.out, fun _ => GE276.out, fun _ _ => (by (with_reducible repeat (first | refine blk_drewN ?_ _ | refine blk_drew ?_ | refine blk_alloc ?_ _)); refine blk_far ?_ NB277_275.out _; (with_reducible repeat (first | refine blk_drewN ?_ _ | refine blk_drew ?_ | refine blk_alloc ?_ _)); refine blk_far ?_ NB277_275.out _; (with_reducible repeat (first | refine blk_drewN ?_ _ | refine blk_drew ?_ | refine blk_alloc ?_ _)); refine blk_far ?_ NB277_275.out _; (with_reducible repeat (first | refine blk_drewN ?_ _ | refine blk_drew ?_ | refine blk_alloc ?_ _)); refine blk_far ?_ NB277_275.out _; (with_reducible repeat (first | refine blk_drewN ?_ _ | refine blk_drew ?_ | refine blk_alloc ?_ _)); refine blk_far ?_ NB277_275.out _; (with_reducible repeat (first | refine blk_drewN ?_ _ | refine blk_drew ?_ | refine blk_alloc ?_ _)); exact BK277.out), fun _ => GW277.out, fun _ => GE277.out, fun _ => (by (with_reducible repeat (first | refine blk_drewN ?_ _ | refine blk_drew ?_ | refine blk_alloc ?_ _)); refine blk_put (cs := #[.int .i64 t258, .string t259, .int .i64 t260, .int .i64 t261, .bool false]) ?_ 4 _ rfl; (with_reducible repeat (first | refine blk_drewN ?_ _ | refine blk_drew ?_ | refine blk_alloc ?_ _)); refine blk_put (cs := #[.int .i64 t258, .string t259, .int .i64 t260, .int .i64 0, .bool false]) ?_ 3 _ rfl; (with_reducible repeat (first | refine blk_drewN ?_ _ | refine blk_drew ?_ | refine blk_alloc ?_ _)); refine blk_put (cs := #[.int .i64 t258, .string t259, .int .i64 0, .int .i64 0, .bool false]) ?_ 2 _ rfl; (with_reducible repeat (first | refine blk_drewN ?_ _ | refine blk_drew ?_ | refine blk_alloc ?_ _)); refine blk_put (cs := #[.int .i64 t258, .string (⟨#[]⟩ : ByteArray), .int .i64 0, .int .i64 0, .bool false]) ?_ 1 _ rfl; (with_reducible repeat (first | refine blk_drewN ?_ _ | refine blk_drew ?_ | refine blk_alloc ?_ _)); refine blk_put (cs := #[.int .i64 0, .string (⟨#[]⟩ : ByteArray), .int .i64 0, .int .i64 0, .bool false]) ?_ 0 _ rfl; (with_reducible repeat (first | refine blk_drewN ?_ _ | refine blk_drew ?_ | refine blk_alloc ?_ _)); exact BK275.out), fun h0_ => absurd ((hoff 28 (by kernel_rfl)).symm.trans h0_) (by decide), fun h0_ => absurd ((hoff 29 (by kernel_rfl)).symm.trans h0_) (by decide), Q_X24_, Q_X25_, Q_X26_⟩
         refine steps_cons ?_ ?_
         ·rintro b a w' ⟨gb275, gb276, gb277, m24_, m25_, m26_, ha, Q_HO256, Q_HB, Q_NB276_275, Q_NB275_276, Q_NB277_275, Q_NB275_277, Q_NB277_276, Q_NB276_277, Q_BK275, Q_GW275, Q_GE275, Q_BK276, Q_GW276, Q_GE276, Q_BK277, Q_GW277, Q_GE277, Q_BK275_e27, Q_BK276_e28, Q_BK277_e29, Q_X24_, Q_X25_, Q_X26_⟩ hb_ hon hoff
          refine ⟨_, rfl, fun K hK => ?_⟩
          have e12 : a.tmps[12]? = some (m25_) := by rw [ha]; exact putSel_on (e := (25, 12, m25_)) 19 rfl rfl (hon 25 (by kernel_rfl)) rfl
          rw [Q_X25_ (hon 25 (by kernel_rfl))] at e12
          have e33 : a.tmps[33]? = some (.agg #[.int .i64 t264, .string t265, .int .i64 t266, .int .i64 t267, .bool t268]) := by rw [ha]; exact putSel_on (e := (15, 33, .agg #[.int .i64 t264, .string t265, .int .i64 t266, .int .i64 t267, .bool t268])) 11 rfl rfl (hon 15 (by kernel_rfl)) rfl
          replace ha := Aside0.mk ha
          have HO256 := Aside0.mk Q_HO256
          have HB := Aside0.mk Q_HB
          have NB276_275 := Aside0.mk (Q_NB276_275 (hon 24 (by kernel_rfl)) (hon 25 (by kernel_rfl)))
          have NB275_276 := Aside0.mk (Q_NB275_276 (hon 24 (by kernel_rfl)) (hon 25 (by kernel_rfl)))
          have NB277_275 := Aside0.mk (Q_NB277_275 (hon 24 (by kernel_rfl)) (hon 26 (by kernel_rfl)))
          have NB275_277 := Aside0.mk (Q_NB275_277 (hon 24 (by kernel_rfl)) (hon 26 (by kernel_rfl)))
          have NB277_276 := Aside0.mk (Q_NB277_276 (hon 25 (by kernel_rfl)) (hon 26 (by kernel_rfl)))
          have NB276_277 := Aside0.mk (Q_NB276_277 (hon 25 (by kernel_rfl)) (hon 26 (by kernel_rfl)))
          have GW275 := Aside0.mk (Q_GW275 (hon 24 (by kernel_rfl)))
          have GE275 := Aside0.mk (Q_GE275 (hon 24 (by kernel_rfl)))
          have BK276 := Aside0.mk (Q_BK276 (hon 25 (by kernel_rfl)) hb_)
          have GW276 := Aside0.mk (Q_GW276 (hon 25 (by kernel_rfl)))
          have GE276 := Aside0.mk (Q_GE276 (hon 25 (by kernel_rfl)))
          have BK277 := Aside0.mk (Q_BK277 (hon 26 (by kernel_rfl)) (hoff 29 (by kernel_rfl)))
          have GW277 := Aside0.mk (Q_GW277 (hon 26 (by kernel_rfl)))
          have GE277 := Aside0.mk (Q_GE277 (hon 26 (by kernel_rfl)))
          have BK275 := Aside0.mk (Q_BK275_e27 (hon 27 (by kernel_rfl)))
          have hs37 : w'.cell? ⟨gb276, 0, none⟩ = some (.int .i64 0) := (blk_cell BK276.out 0).trans rfl
          have hfs37 := blk_frozen BK276.out 0
          have hns37_0 := NB275_276.out
          have hns37_2 := NB277_276.out
          have hms37_0 := NB276_275.out
          have hms37_2 := NB276_277.out
          have hs38 : w'.cell? ⟨gb276, 1, none⟩ = some (.string (⟨#[]⟩ : ByteArray)) := (blk_cell BK276.out 1).trans rfl
          have hfs38 := blk_frozen BK276.out 1
          have hns38_0 := NB275_276.out
          have hns38_2 := NB277_276.out
          have hms38_0 := NB276_275.out
          have hms38_2 := NB276_277.out
          have hs39 : w'.cell? ⟨gb276, 2, none⟩ = some (.int .i64 0) := (blk_cell BK276.out 2).trans rfl
          have hfs39 := blk_frozen BK276.out 2
          have hns39_0 := NB275_276.out
          have hns39_2 := NB277_276.out
          have hms39_0 := NB276_275.out
          have hms39_2 := NB276_277.out
          have hs40 : w'.cell? ⟨gb276, 3, none⟩ = some (.int .i64 0) := (blk_cell BK276.out 3).trans rfl
          have hfs40 := blk_frozen BK276.out 3
          have hns40_0 := NB275_276.out
          have hns40_2 := NB277_276.out
          have hms40_0 := NB276_275.out
          have hms40_2 := NB276_277.out
          have hs41 : w'.cell? ⟨gb276, 4, none⟩ = some (.bool false) := (blk_cell BK276.out 4).trans rfl
          have hfs41 := blk_frozen BK276.out 4
          have hns41_0 := NB275_276.out
          have hns41_2 := NB277_276.out
          have hms41_0 := NB276_275.out
          have hms41_2 := NB276_277.out
          refine skip_ (w1 := ?_) ?_ ?_ ?_ ?_
          rotate_left
          ·rfl
          ·rfl
          ·go_simp
           rfl
          refine hK.out _ _ ⟨gb275, gb276, gb277, m24_, m25_, m26_, (by rw [ha.out]; exact putSel_none (v := undef) rfl), (by (with_reducible repeat (first | apply Kd.R_alloc | apply Kd.R_drewN | apply Kd.R_drew)); exact Kd.R_mono (Kd.R_far (p := ⟨gb276, 4, none⟩) (Kd.R_far (p := ⟨gb276, 3, none⟩) (Kd.R_far (p := ⟨gb276, 2, none⟩) (Kd.R_far (p := ⟨gb276, 1, none⟩) (Kd.R_far (p := ⟨gb276, 0, none⟩) (Kd.R_types HO256.out BK276.out (by decide)) (fun _ hk => hk.2) (.int .i64 t264)) (fun _ hk => hk.2) (.string t265)) (fun _ hk => hk.2) (.int .i64 t266)) (fun _ hk => hk.2) (.int .i64 t267)) (fun _ hk => hk.2) (.bool t268)) (fun _ hk => by first | exact trivial | ((try simp only [and_assoc] at hk); (try simp only [and_assoc]); exact trivial))), (by repeat (first | (with_reducible first | exact HB.out | apply below_alloc | apply pw_below_drewN | apply below_drew1 | refine below_set ?_ GE275.out | refine below_set ?_ GE276.out | refine below_set ?_ GE277.out) | exact HB.out)), fun _ _ => NB276_275.out, fun _ _ => NB275_276.out, fun _ _ => NB277_275.out, fun _ _ => NB275_277.out, fun _ _ => NB277_276.out, fun _ _ => NB276_277.out, fun _ h1_ => absurd ((hon 27 (by kernel_rfl)).symm.trans h1_) (by decide), fun _ => GW275.out, fun _ => GE275.out, fun _ h1_ => absurd ((up_self b 28).symm.trans h1_) (by decide), fun _ => GW276.out, fun _ => GE276.out, fun _ _ => (by (with_reducible repeat (first | refine blk_drewN ?_ _ | refine blk_drew ?_ | refine blk_alloc ?_ _)); refine blk_far ?_ NB277_276.out _; (with_reducible repeat (first | refine blk_drewN ?_ _ | refine blk_drew ?_ | refine blk_alloc ?_ _)); refine blk_far ?_ NB277_276.out _; (with_reducible repeat (first | refine blk_drewN ?_ _ | refine blk_drew ?_ | refine blk_alloc ?_ _)); refine blk_far ?_ NB277_276.out _; (with_reducible repeat (first | refine blk_drewN ?_ _ | refine blk_drew ?_ | refine blk_alloc ?_ _)); refine blk_far ?_ NB277_276.out _; (with_reducible repeat (first | refine blk_drewN ?_ _ | refine blk_drew ?_ | refine blk_alloc ?_ _)); refine blk_far ?_ NB277_276.out _; (with_reducible repeat (first | refine blk_drewN ?_ _ | refine blk_drew ?_ | refine blk_alloc ?_ _)); exact BK277.out), fun _ => GW277.out, fun _ => GE277.out, fun _ => (by (with_reducible repeat (first | refine blk_drewN ?_ _ | refine blk_drew ?_ | refine blk_alloc ?_ _)); refine blk_far ?_ NB275_276.out _; (with_reducible repeat (first | refine blk_drewN ?_ _ | refine blk_drew ?_ | refine blk_alloc ?_ _)); refine blk_far ?_ NB275_276.out _; (with_reducible repeat (first | refine blk_drewN ?_ _ | refine blk_drew ?_ | refine blk_alloc ?_ _)); refine blk_far ?_ NB275_276.out _; (with_reducible repeat (first | refine blk_drewN ?_ _ | refine blk_drew ?_ | refine blk_alloc ?_ _)); refine blk_far ?_ NB275_276.out _; (with_reducible repeat (first | refine blk_drewN ?_ _ | refine blk_drew ?_ | refine blk_alloc ?_ _)); refine blk_far ?_ NB275_276.out _; (with_reducible repeat (first | refine blk_drewN ?_ _ | refine blk_drew ?_ | refine blk_alloc ?_ _)); exact BK275.out), fun _ => (by (with_reducible repeat (first | refine blk_drewN ?_ _ | refine blk_drew ?_ | refine blk_alloc ?_ _)); refine blk_put (cs := #[.int .i64 t264, .string t265, .int .i64 t266, .int .i64 t267, .bool false]) ?_ 4 _ rfl; (with_reducible repeat (first | refine blk_drewN ?_ _ | refine blk_drew ?_ | refine blk_alloc ?_ _)); refine blk_put (cs := #[.int .i64 t264, .string t265, .int .i64 t266, .int .i64 0, .bool false]) ?_ 3 _ rfl; (with_reducible repeat (first | refine blk_drewN ?_ _ | refine blk_drew ?_ | refine blk_alloc ?_ _)); refine blk_put (cs := #[.int .i64 t264, .string t265, .int .i64 0, .int .i64 0, .bool false]) ?_ 2 _ rfl; (with_reducible repeat (first | refine blk_drewN ?_ _ | refine blk_drew ?_ | refine blk_alloc ?_ _)); refine blk_put (cs := #[.int .i64 t264, .string (⟨#[]⟩ : ByteArray), .int .i64 0, .int .i64 0, .bool false]) ?_ 1 _ rfl; (with_reducible repeat (first | refine blk_drewN ?_ _ | refine blk_drew ?_ | refine blk_alloc ?_ _)); refine blk_put (cs := #[.int .i64 0, .string (⟨#[]⟩ : ByteArray), .int .i64 0, .int .i64 0, .bool false]) ?_ 0 _ rfl; (with_reducible repeat (first | refine blk_drewN ?_ _ | refine blk_drew ?_ | refine blk_alloc ?_ _)); exact BK276.out), fun h0_ => absurd ((hoff 29 (by kernel_rfl)).symm.trans h0_) (by decide), Q_X24_, Q_X25_, Q_X26_⟩
         refine steps_cons ?_ ?_
         ·rintro b a w' ⟨gb275, gb276, gb277, m24_, m25_, m26_, ha, Q_HO256, Q_HB, Q_NB276_275, Q_NB275_276, Q_NB277_275, Q_NB275_277, Q_NB277_276, Q_NB276_277, Q_BK275, Q_GW275, Q_GE275, Q_BK276, Q_GW276, Q_GE276, Q_BK277, Q_GW277, Q_GE277, Q_BK275_e27, Q_BK276_e28, Q_BK277_e29, Q_X24_, Q_X25_, Q_X26_⟩ hb_ hon hoff
          refine ⟨_, rfl, fun K hK => ?_⟩
          have e13 : a.tmps[13]? = some (m26_) := by rw [ha]; exact putSel_on (e := (26, 13, m26_)) 20 rfl rfl (hon 26 (by kernel_rfl)) rfl
          rw [Q_X26_ (hon 26 (by kernel_rfl))] at e13
          have e41 : a.tmps[41]? = some (.agg #[.int .i64 t270, .string t271, .int .i64 t272, .int .i64 t273, .bool t274]) := by rw [ha]; exact putSel_on (e := (23, 41, .agg #[.int .i64 t270, .string t271, .int .i64 t272, .int .i64 t273, .bool t274])) 17 rfl rfl (hon 23 (by kernel_rfl)) rfl
          replace ha := Aside0.mk ha
          have HO256 := Aside0.mk Q_HO256
          have HB := Aside0.mk Q_HB
          have NB276_275 := Aside0.mk (Q_NB276_275 (hon 24 (by kernel_rfl)) (hon 25 (by kernel_rfl)))
          have NB275_276 := Aside0.mk (Q_NB275_276 (hon 24 (by kernel_rfl)) (hon 25 (by kernel_rfl)))
          have NB277_275 := Aside0.mk (Q_NB277_275 (hon 24 (by kernel_rfl)) (hon 26 (by kernel_rfl)))
          have NB275_277 := Aside0.mk (Q_NB275_277 (hon 24 (by kernel_rfl)) (hon 26 (by kernel_rfl)))
          have NB277_276 := Aside0.mk (Q_NB277_276 (hon 25 (by kernel_rfl)) (hon 26 (by kernel_rfl)))
          have NB276_277 := Aside0.mk (Q_NB276_277 (hon 25 (by kernel_rfl)) (hon 26 (by kernel_rfl)))
          have GW275 := Aside0.mk (Q_GW275 (hon 24 (by kernel_rfl)))
          have GE275 := Aside0.mk (Q_GE275 (hon 24 (by kernel_rfl)))
          have GW276 := Aside0.mk (Q_GW276 (hon 25 (by kernel_rfl)))
          have GE276 := Aside0.mk (Q_GE276 (hon 25 (by kernel_rfl)))
          have BK277 := Aside0.mk (Q_BK277 (hon 26 (by kernel_rfl)) hb_)
          have GW277 := Aside0.mk (Q_GW277 (hon 26 (by kernel_rfl)))
          have GE277 := Aside0.mk (Q_GE277 (hon 26 (by kernel_rfl)))
          have BK275 := Aside0.mk (Q_BK275_e27 (hon 27 (by kernel_rfl)))
          have BK276 := Aside0.mk (Q_BK276_e28 (hon 28 (by kernel_rfl)))
          have hs42 : w'.cell? ⟨gb277, 0, none⟩ = some (.int .i64 0) := (blk_cell BK277.out 0).trans rfl
          have hfs42 := blk_frozen BK277.out 0
          have hns42_0 := NB275_277.out
          have hns42_1 := NB276_277.out
          have hms42_0 := NB277_275.out
          have hms42_1 := NB277_276.out
          have hs43 : w'.cell? ⟨gb277, 1, none⟩ = some (.string (⟨#[]⟩ : ByteArray)) := (blk_cell BK277.out 1).trans rfl
          have hfs43 := blk_frozen BK277.out 1
          have hns43_0 := NB275_277.out
          have hns43_1 := NB276_277.out
          have hms43_0 := NB277_275.out
          have hms43_1 := NB277_276.out
          have hs44 : w'.cell? ⟨gb277, 2, none⟩ = some (.int .i64 0) := (blk_cell BK277.out 2).trans rfl
          have hfs44 := blk_frozen BK277.out 2
          have hns44_0 := NB275_277.out
          have hns44_1 := NB276_277.out
          have hms44_0 := NB277_275.out
          have hms44_1 := NB277_276.out
          have hs45 : w'.cell? ⟨gb277, 3, none⟩ = some (.int .i64 0) := (blk_cell BK277.out 3).trans rfl
          have hfs45 := blk_frozen BK277.out 3
          have hns45_0 := NB275_277.out
          have hns45_1 := NB276_277.out
          have hms45_0 := NB277_275.out
          have hms45_1 := NB277_276.out
          have hs46 : w'.cell? ⟨gb277, 4, none⟩ = some (.bool false) := (blk_cell BK277.out 4).trans rfl
          have hfs46 := blk_frozen BK277.out 4
          have hns46_0 := NB275_277.out
          have hns46_1 := NB276_277.out
          have hms46_0 := NB277_275.out
          have hms46_1 := NB277_276.out
          refine skip_ (w1 := ?_) ?_ ?_ ?_ ?_
          rotate_left
          ·rfl
          ·rfl
          ·go_simp
           rfl
          refine hK.out _ _ ⟨gb275, gb276, gb277, m24_, m25_, m26_, (by rw [ha.out]; exact putSel_none (v := undef) rfl), (by (with_reducible repeat (first | apply Kd.R_alloc | apply Kd.R_drewN | apply Kd.R_drew)); exact Kd.R_mono (Kd.R_far (p := ⟨gb277, 4, none⟩) (Kd.R_far (p := ⟨gb277, 3, none⟩) (Kd.R_far (p := ⟨gb277, 2, none⟩) (Kd.R_far (p := ⟨gb277, 1, none⟩) (Kd.R_far (p := ⟨gb277, 0, none⟩) (Kd.R_types HO256.out BK277.out (by decide)) (fun _ hk => hk.2) (.int .i64 t270)) (fun _ hk => hk.2) (.string t271)) (fun _ hk => hk.2) (.int .i64 t272)) (fun _ hk => hk.2) (.int .i64 t273)) (fun _ hk => hk.2) (.bool t274)) (fun _ hk => by first | exact trivial | ((try simp only [and_assoc] at hk); (try simp only [and_assoc]); exact trivial))), (by repeat (first | (with_reducible first | exact HB.out | apply below_alloc | apply pw_below_drewN | apply below_drew1 | refine below_set ?_ GE275.out | refine below_set ?_ GE276.out | refine below_set ?_ GE277.out) | exact HB.out)), fun _ _ => NB276_275.out, fun _ _ => NB275_276.out, fun _ _ => NB277_275.out, fun _ _ => NB275_277.out, fun _ _ => NB277_276.out, fun _ _ => NB276_277.out, fun _ h1_ => absurd ((hon 27 (by kernel_rfl)).symm.trans h1_) (by decide), fun _ => GW275.out, fun _ => GE275.out, fun _ h1_ => absurd ((hon 28 (by kernel_rfl)).symm.trans h1_) (by decide), fun _ => GW276.out, fun _ => GE276.out, fun _ h1_ => absurd ((up_self b 29).symm.trans h1_) (by decide), fun _ => GW277.out, fun _ => GE277.out, fun _ => (by (with_reducible repeat (first | refine blk_drewN ?_ _ | refine blk_drew ?_ | refine blk_alloc ?_ _)); refine blk_far ?_ NB275_277.out _; (with_reducible repeat (first | refine blk_drewN ?_ _ | refine blk_drew ?_ | refine blk_alloc ?_ _)); refine blk_far ?_ NB275_277.out _; (with_reducible repeat (first | refine blk_drewN ?_ _ | refine blk_drew ?_ | refine blk_alloc ?_ _)); refine blk_far ?_ NB275_277.out _; (with_reducible repeat (first | refine blk_drewN ?_ _ | refine blk_drew ?_ | refine blk_alloc ?_ _)); refine blk_far ?_ NB275_277.out _; (with_reducible repeat (first | refine blk_drewN ?_ _ | refine blk_drew ?_ | refine blk_alloc ?_ _)); refine blk_far ?_ NB275_277.out _; (with_reducible repeat (first | refine blk_drewN ?_ _ | refine blk_drew ?_ | refine blk_alloc ?_ _)); exact BK275.out), fun _ => (by (with_reducible repeat (first | refine blk_drewN ?_ _ | refine blk_drew ?_ | refine blk_alloc ?_ _)); refine blk_far ?_ NB276_277.out _; (with_reducible repeat (first | refine blk_drewN ?_ _ | refine blk_drew ?_ | refine blk_alloc ?_ _)); refine blk_far ?_ NB276_277.out _; (with_reducible repeat (first | refine blk_drewN ?_ _ | refine blk_drew ?_ | refine blk_alloc ?_ _)); refine blk_far ?_ NB276_277.out _; (with_reducible repeat (first | refine blk_drewN ?_ _ | refine blk_drew ?_ | refine blk_alloc ?_ _)); refine blk_far ?_ NB276_277.out _; (with_reducible repeat (first | refine blk_drewN ?_ _ | refine blk_drew ?_ | refine blk_alloc ?_ _)); refine blk_far ?_ NB276_277.out _; (with_reducible repeat (first | refine blk_drewN ?_ _ | refine blk_drew ?_ | refine blk_alloc ?_ _)); exact BK276.out), fun _ => (by (with_reducible repeat (first | refine blk_drewN ?_ _ | refine blk_drew ?_ | refine blk_alloc ?_ _)); refine blk_put (cs := #[.int .i64 t270, .string t271, .int .i64 t272, .int .i64 t273, .bool false]) ?_ 4 _ rfl; (with_reducible repeat (first | refine blk_drewN ?_ _ | refine blk_drew ?_ | refine blk_alloc ?_ _)); refine blk_put (cs := #[.int .i64 t270, .string t271, .int .i64 t272, .int .i64 0, .bool false]) ?_ 3 _ rfl; (with_reducible repeat (first | refine blk_drewN ?_ _ | refine blk_drew ?_ | refine blk_alloc ?_ _)); refine blk_put (cs := #[.int .i64 t270, .string t271, .int .i64 0, .int .i64 0, .bool false]) ?_ 2 _ rfl; (with_reducible repeat (first | refine blk_drewN ?_ _ | refine blk_drew ?_ | refine blk_alloc ?_ _)); refine blk_put (cs := #[.int .i64 t270, .string (⟨#[]⟩ : ByteArray), .int .i64 0, .int .i64 0, .bool false]) ?_ 1 _ rfl; (with_reducible repeat (first | refine blk_drewN ?_ _ | refine blk_drew ?_ | refine blk_alloc ?_ _)); refine blk_put (cs := #[.int .i64 0, .string (⟨#[]⟩ : ByteArray), .int .i64 0, .int .i64 0, .bool false]) ?_ 0 _ rfl; (with_reducible repeat (first | refine blk_drewN ?_ _ | refine blk_drew ?_ | refine blk_alloc ?_ _)); exact BK277.out), Q_X24_, Q_X25_, Q_X26_⟩
         exact steps_nil
        rintro b a w46 hall ⟨gb275, gb276, gb277, m24_, m25_, m26_, ha, Q_HO256, Q_HB, Q_NB276_275, Q_NB275_276, Q_NB277_275, Q_NB275_277, Q_NB277_276, Q_NB276_277, Q_BK275, Q_GW275, Q_GE275, Q_BK276, Q_GW276, Q_GE276, Q_BK277, Q_GW277, Q_GE277, Q_BK275_e27, Q_BK276_e28, Q_BK277_e29, Q_X24_, Q_X25_, Q_X26_⟩
        clear HB HO256
        have hb2_ := hall 2 (by kernel_rfl)
        have hb3_ := hall 3 (by kernel_rfl)
        have hb4_ := hall 4 (by kernel_rfl)
        have hb5_ := hall 5 (by kernel_rfl)
        have hb6_ := hall 6 (by kernel_rfl)
        have hb7_ := hall 7 (by kernel_rfl)
        have hb10_ := hall 10 (by kernel_rfl)
        have hb11_ := hall 11 (by kernel_rfl)
        have hb12_ := hall 12 (by kernel_rfl)
        have hb13_ := hall 13 (by kernel_rfl)
        have hb14_ := hall 14 (by kernel_rfl)
        have hb15_ := hall 15 (by kernel_rfl)
        have hb18_ := hall 18 (by kernel_rfl)
        have hb19_ := hall 19 (by kernel_rfl)
        have hb20_ := hall 20 (by kernel_rfl)
        have hb21_ := hall 21 (by kernel_rfl)
        have hb22_ := hall 22 (by kernel_rfl)
        have hb23_ := hall 23 (by kernel_rfl)
        have hb24_ := hall 24 (by kernel_rfl)
        have hb25_ := hall 25 (by kernel_rfl)
        have hb26_ := hall 26 (by kernel_rfl)
        have hb27_ := hall 27 (by kernel_rfl)
        have hb28_ := hall 28 (by kernel_rfl)
        have hb29_ := hall 29 (by kernel_rfl)
        subst ha
        obtain rfl := Q_X24_ hb24_
        obtain rfl := Q_X25_ hb25_
        obtain rfl := Q_X26_ hb26_
        simp only [putSel, hb2_, hb3_, hb4_, hb5_, hb6_, hb7_, hb10_, hb11_, hb12_, hb13_, hb14_, hb15_, hb18_, hb19_, hb20_, hb21_, hb22_, hb23_, hb24_, hb25_, hb26_, hb27_, hb28_, hb29_, if_true, Act.put, List.setIfInBounds_toArray, List.set_cons_zero, List.set_cons_succ]
        have HO256 := Aside0.mk Q_HO256
        clear Q_HO256
        have HB := Aside0.mk Q_HB
        clear Q_HB
        have NB276_275 := Aside0.mk (Q_NB276_275 hb24_ hb25_)
        clear Q_NB276_275
        have NB275_276 := Aside0.mk (Q_NB275_276 hb24_ hb25_)
        clear Q_NB275_276
        have NB277_275 := Aside0.mk (Q_NB277_275 hb24_ hb26_)
        clear Q_NB277_275
        have NB275_277 := Aside0.mk (Q_NB275_277 hb24_ hb26_)
        clear Q_NB275_277
        have NB277_276 := Aside0.mk (Q_NB277_276 hb25_ hb26_)
        clear Q_NB277_276
        have NB276_277 := Aside0.mk (Q_NB276_277 hb25_ hb26_)
        clear Q_NB276_277
        clear Q_BK275
        have GW275 := Aside0.mk (Q_GW275 hb24_)
        clear Q_GW275
        have GE275 := Aside0.mk (Q_GE275 hb24_)
        clear Q_GE275
        clear Q_BK276
        have GW276 := Aside0.mk (Q_GW276 hb25_)
        clear Q_GW276
        have GE276 := Aside0.mk (Q_GE276 hb25_)
        clear Q_GE276
        clear Q_BK277
        have GW277 := Aside0.mk (Q_GW277 hb26_)
        clear Q_GW277
        have GE277 := Aside0.mk (Q_GE277 hb26_)
        clear Q_GE277
        have BK275 := Aside0.mk (Q_BK275_e27 hb27_)
        clear Q_BK275_e27
        have BK276 := Aside0.mk (Q_BK276_e28 hb28_)
        clear Q_BK276_e28
        have BK277 := Aside0.mk (Q_BK277_e29 hb29_)
        clear Q_BK277_e29
        clear hall hb2_ hb3_ hb4_ hb5_ hb6_ hb7_ hb10_ hb11_ hb12_ hb13_ hb14_ hb15_ hb18_ hb19_ hb20_ hb21_ hb22_ hb23_ hb24_ hb25_ hb26_ hb27_ hb28_ hb29_
        go_upto_if 42 with (fail)
        go_cut [] (fun wc => ∃ (kq : Nat) (x278000_18 : Int) (x278001_18 : ByteArray) (x278002_18 : Int) (x278003_18 : Int) (x278004_18 : Bool), Aside0 (recensionlaw5_TokenOps.j0 kq t258 t259 t260 t261 t262 t264 t265 t266 t267 t268 x278000_18 x278001_18 x278002_18 x278003_18 x278004_18 = some r) ∧ Aside0 (kq ≤ k) ∧ Aside0 (wc.heap[gb275]? = some (.cells #[.int .i64 t258, .string t259, .int .i64 t260, .int .i64 t261, .bool t262] 23 (0, 0))) ∧ Aside0 (wc.heap[gb276]? = some (.cells #[.int .i64 t264, .string t265, .int .i64 t266, .int .i64 t267, .bool t268] 23 (0, 0))) ∧ Aside0 (wc.heap[gb277]? = some (.cells #[.int .i64 x278000_18, .string x278001_18, .int .i64 x278002_18, .int .i64 x278003_18, .bool x278004_18] 23 (0, 0))) ∧ Aside0 (Below w.heap.size w wc))
        case first =>
         have H := HC19.out
         clear HC19
         by_cases c47 : a3 = true
         ·subst c47
          have H1 : ((recensionlaw5_word.f (⟨#[120]⟩ : ByteArray)).bind fun bt278 => (recensionlaw5_TokenOps.j0 k t258 t259 t260 t261 t262 t264 t265 t266 t267 t268 bt278.1 bt278.2.1 bt278.2.2.1 bt278.2.2.2.1 bt278.2.2.2.2)) = some r := by rw [if_pos rfl] at H; exact H
          clear H
          have H := H1
          clear H1
          replace H := Option.bind_eq_some_iff.mp H
          obtain ⟨⟨t278, t279, t280, t281, t282⟩, A480, H⟩ := H
          replace H : (recensionlaw5_TokenOps.j0 k t258 t259 t260 t261 t262 t264 t265 t266 t267 t268 t278 t279 t280 t281 t282) = some r := H
          have A48 := Aside0.mk A480
          clear A480
          have H' := Aside0.mk H
          clear H
          go_wp2_with (first | ((with_reducible refine gate_callee (f := 20) rfl ?_); refine goesL_ (some 43) rfl rfl Try.func20 (by kernel_rfl) rfl #[.string (⟨#[120]⟩ : ByteArray)] rfl (by (try simp only [List.map_toArray, List.map_cons, List.map_nil]); first | done | rfl | (simp only [List.length_drop, List.length_take]; rfl) | (simp only [wrap64_wl, wrap64_wr]; rfl)) ?_; (with_reducible refine (recensionlaw5_word.calls (⟨#[120]⟩ : ByteArray) t278 t279 t280 t281 t282 _ A48.out).mono ?_); rintro e w49 ⟨rfl, hb⟩; refine ⟨_, rfl, ?_⟩; have n0_ := Aside0.mk (Kd.R_below (by (with_reducible repeat (first | apply Kd.R_alloc | apply Kd.R_drewN | apply Kd.R_drew)); exact HO256.out) hb); have n1_ := Aside0.mk (blk_below (g := gb275) (o := .cells #[.int .i64 t258, .string t259, .int .i64 t260, .int .i64 t261, .bool t262] 23 (0, 0)) (by (with_reducible repeat (first | refine blk_drewN ?_ _ | refine blk_drew ?_ | refine blk_alloc ?_ _)); exact BK275.out) hb); have n2_ := Aside0.mk (blk_below (g := gb276) (o := .cells #[.int .i64 t264, .string t265, .int .i64 t266, .int .i64 t267, .bool t268] 23 (0, 0)) (by (with_reducible repeat (first | refine blk_drewN ?_ _ | refine blk_drew ?_ | refine blk_alloc ?_ _)); exact BK276.out) hb); have n3_ := Aside0.mk (blk_below (g := gb277) (o := .cells #[.int .i64 t270, .string t271, .int .i64 t272, .int .i64 t273, .bool t274] 23 (0, 0)) (by (with_reducible repeat (first | refine blk_drewN ?_ _ | refine blk_drew ?_ | refine blk_alloc ?_ _)); exact BK277.out) hb); have n4_ := Aside0.mk (below_step (by repeat (first | (with_reducible first | exact HB.out | apply below_alloc | apply pw_below_drewN | apply below_drew1 | refine below_set ?_ GE275.out | refine below_set ?_ GE276.out | refine below_set ?_ GE277.out) | exact HB.out)) hb); clear HO256; clear BK275; clear BK276; clear BK277; clear HB; have HO256 := n0_; have BK275 := n1_; have BK276 := n2_; have BK277 := n3_; have HB := n4_; clear n0_ n1_ n2_ n3_ n4_; (try clear hb); (try clear hb2); (try clear hk); (try clear hi); have hnb50 := NB277_275.out; have hnc50 := NB275_277.out; have hnb51 := NB277_276.out; have hnc51 := NB276_277.out; have hcz52_0 : w49.cell? ⟨gb277, 0, none⟩ = some (.int .i64 t270) := (blk_cell BK277.out 0).trans rfl; have hcz52_1 : w49.cell? ⟨gb277, 1, none⟩ = some (.string t271) := (blk_cell BK277.out 1).trans rfl; have hcz52_2 : w49.cell? ⟨gb277, 2, none⟩ = some (.int .i64 t272) := (blk_cell BK277.out 2).trans rfl; have hcz52_3 : w49.cell? ⟨gb277, 3, none⟩ = some (.int .i64 t273) := (blk_cell BK277.out 3).trans rfl; have hcz52_4 : w49.cell? ⟨gb277, 4, none⟩ = some (.bool t274) := (blk_cell BK277.out 4).trans rfl; have hfz52_0 := blk_frozen BK277.out 0; have hfz52_1 := blk_frozen BK277.out 1; have hfz52_2 := blk_frozen BK277.out 2; have hfz52_3 := blk_frozen BK277.out 3; have hfz52_4 := blk_frozen BK277.out 4) | ((with_reducible refine gate_store (t := 23) (p := 13) rfl ?_); refine store_event (t := 23) (p := 13) (v := ?vo_w53) (w1 := (((((w49.setCell ⟨gb277, 0, none⟩ (.int .i64 t278)).setCell ⟨gb277, 1, none⟩ (.string t279)).setCell ⟨gb277, 2, none⟩ (.int .i64 t280)).setCell ⟨gb277, 3, none⟩ (.int .i64 t281)).setCell ⟨gb277, 4, none⟩ (.bool t282))) ?hg ?ho ?hn ?hr ?_; (case ho => rfl); (case hg => rfl); (case hn => rfl); (case hr => first | (go_simp; done) | (go_simp; rfl)); intro w53 hw; have n0_ : Aside0 (Kd.R Kd.string 9 w53 w.heap.size (fun _ => True) (.slice (some ad257) y254.length co24) y254) := ⟨(by rw [hw]; exact (by (with_reducible repeat (first | apply Kd.R_alloc | apply Kd.R_drewN | apply Kd.R_drew)); exact Kd.R_mono (Kd.R_far (p := ⟨gb277, 4, none⟩) (Kd.R_far (p := ⟨gb277, 3, none⟩) (Kd.R_far (p := ⟨gb277, 2, none⟩) (Kd.R_far (p := ⟨gb277, 1, none⟩) (Kd.R_far (p := ⟨gb277, 0, none⟩) (Kd.R_types HO256.out BK277.out (by decide)) (fun _ hk => hk.2) (.int .i64 t278)) (fun _ hk => hk.2) (.string t279)) (fun _ hk => hk.2) (.int .i64 t280)) (fun _ hk => hk.2) (.int .i64 t281)) (fun _ hk => hk.2) (.bool t282)) (fun _ hk => by first | exact trivial | ((try simp only [and_assoc] at hk); (try simp only [and_assoc]); exact trivial))))⟩; have n1_ : Aside0 (w53.heap[gb275]? = some (.cells #[.int .i64 t258, .string t259, .int .i64 t260, .int .i64 t261, .bool t262] 23 (0, 0))) := ⟨(by rw [hw]; exact (by (with_reducible repeat (first | refine blk_drewN ?_ _ | refine blk_drew ?_ | refine blk_alloc ?_ _)); refine blk_far ?_ NB275_277.out _; (with_reducible repeat (first | refine blk_drewN ?_ _ | refine blk_drew ?_ | refine blk_alloc ?_ _)); refine blk_far ?_ NB275_277.out _; (with_reducible repeat (first | refine blk_drewN ?_ _ | refine blk_drew ?_ | refine blk_alloc ?_ _)); refine blk_far ?_ NB275_277.out _; (with_reducible repeat (first | refine blk_drewN ?_ _ | refine blk_drew ?_ | refine blk_alloc ?_ _)); refine blk_far ?_ NB275_277.out _; (with_reducible repeat (first | refine blk_drewN ?_ _ | refine blk_drew ?_ | refine blk_alloc ?_ _)); refine blk_far ?_ NB275_277.out _; (with_reducible repeat (first | refine blk_drewN ?_ _ | refine blk_drew ?_ | refine blk_alloc ?_ _)); exact BK275.out))⟩; have n2_ : Aside0 (w53.heap[gb276]? = some (.cells #[.int .i64 t264, .string t265, .int .i64 t266, .int .i64 t267, .bool t268] 23 (0, 0))) := ⟨(by rw [hw]; exact (by (with_reducible repeat (first | refine blk_drewN ?_ _ | refine blk_drew ?_ | refine blk_alloc ?_ _)); refine blk_far ?_ NB276_277.out _; (with_reducible repeat (first | refine blk_drewN ?_ _ | refine blk_drew ?_ | refine blk_alloc ?_ _)); refine blk_far ?_ NB276_277.out _; (with_reducible repeat (first | refine blk_drewN ?_ _ | refine blk_drew ?_ | refine blk_alloc ?_ _)); refine blk_far ?_ NB276_277.out _; (with_reducible repeat (first | refine blk_drewN ?_ _ | refine blk_drew ?_ | refine blk_alloc ?_ _)); refine blk_far ?_ NB276_277.out _; (with_reducible repeat (first | refine blk_drewN ?_ _ | refine blk_drew ?_ | refine blk_alloc ?_ _)); refine blk_far ?_ NB276_277.out _; (with_reducible repeat (first | refine blk_drewN ?_ _ | refine blk_drew ?_ | refine blk_alloc ?_ _)); exact BK276.out))⟩; have n3_ : Aside0 (w53.heap[gb277]? = some (.cells #[.int .i64 t278, .string t279, .int .i64 t280, .int .i64 t281, .bool t282] 23 (0, 0))) := ⟨(by rw [hw]; exact (by (with_reducible repeat (first | refine blk_drewN ?_ _ | refine blk_drew ?_ | refine blk_alloc ?_ _)); refine blk_put (cs := #[.int .i64 t278, .string t279, .int .i64 t280, .int .i64 t281, .bool t274]) ?_ 4 _ rfl; (with_reducible repeat (first | refine blk_drewN ?_ _ | refine blk_drew ?_ | refine blk_alloc ?_ _)); refine blk_put (cs := #[.int .i64 t278, .string t279, .int .i64 t280, .int .i64 t273, .bool t274]) ?_ 3 _ rfl; (with_reducible repeat (first | refine blk_drewN ?_ _ | refine blk_drew ?_ | refine blk_alloc ?_ _)); refine blk_put (cs := #[.int .i64 t278, .string t279, .int .i64 t272, .int .i64 t273, .bool t274]) ?_ 2 _ rfl; (with_reducible repeat (first | refine blk_drewN ?_ _ | refine blk_drew ?_ | refine blk_alloc ?_ _)); refine blk_put (cs := #[.int .i64 t278, .string t271, .int .i64 t272, .int .i64 t273, .bool t274]) ?_ 1 _ rfl; (with_reducible repeat (first | refine blk_drewN ?_ _ | refine blk_drew ?_ | refine blk_alloc ?_ _)); refine blk_put (cs := #[.int .i64 t270, .string t271, .int .i64 t272, .int .i64 t273, .bool t274]) ?_ 0 _ rfl; (with_reducible repeat (first | refine blk_drewN ?_ _ | refine blk_drew ?_ | refine blk_alloc ?_ _)); exact BK277.out))⟩; have n4_ : Aside0 (Below w.heap.size w w53) := ⟨(by rw [hw]; exact (by repeat (first | (with_reducible first | exact HB.out | apply below_alloc | apply pw_below_drewN | apply below_drew1 | refine below_set ?_ GE275.out | refine below_set ?_ GE276.out | refine below_set ?_ GE277.out) | exact HB.out)))⟩; clear hw; clear HO256; clear BK275; clear BK276; clear BK277; clear HB; have HO256 := n0_; have BK275 := n1_; have BK276 := n2_; have BK277 := n3_; have HB := n4_; clear n0_ n1_ n2_ n3_ n4_))
          go_meet
          case rel => exact ⟨_, (t278), (t279), (t280), (t281), (t282), H', ⟨by first | omega | exact Nat.le_refl _⟩, ⟨by (with_reducible repeat (first | refine blk_drewN ?_ _ | refine blk_drew ?_ | refine blk_alloc ?_ _)); exact BK275.out⟩, ⟨by (with_reducible repeat (first | refine blk_drewN ?_ _ | refine blk_drew ?_ | refine blk_alloc ?_ _)); exact BK276.out⟩, ⟨by (with_reducible repeat (first | refine blk_drewN ?_ _ | refine blk_drew ?_ | refine blk_alloc ?_ _)); exact BK277.out⟩, ⟨by repeat (first | (with_reducible first | exact HB.out | apply below_alloc | apply pw_below_drewN | apply below_drew1 | refine below_set ?_ GE275.out | refine below_set ?_ GE276.out | refine below_set ?_ GE277.out) | exact HB.out)⟩⟩
         ·replace c47 := Bool.eq_false_iff.mpr c47
          subst c47
          have H1 : (recensionlaw5_TokenOps.j0 k t258 t259 t260 t261 t262 t264 t265 t266 t267 t268 t270 t271 t272 t273 t274) = some r := by rw [if_neg (show ¬ (false = true) by decide)] at H; exact H
          clear H
          have H := H1
          clear H1
          have H' := Aside0.mk H
          clear H
          go_wp2
          go_meet
          case rel => exact ⟨_, (t270), (t271), (t272), (t273), (t274), H', ⟨by first | omega | exact Nat.le_refl _⟩, ⟨by (with_reducible repeat (first | refine blk_drewN ?_ _ | refine blk_drew ?_ | refine blk_alloc ?_ _)); exact BK275.out⟩, ⟨by (with_reducible repeat (first | refine blk_drewN ?_ _ | refine blk_drew ?_ | refine blk_alloc ?_ _)); exact BK276.out⟩, ⟨by (with_reducible repeat (first | refine blk_drewN ?_ _ | refine blk_drew ?_ | refine blk_alloc ?_ _)); exact BK277.out⟩, ⟨by repeat (first | (with_reducible first | exact HB.out | apply below_alloc | apply pw_below_drewN | apply below_drew1 | refine below_set ?_ GE275.out | refine below_set ?_ GE276.out | refine below_set ?_ GE277.out) | exact HB.out)⟩⟩
        case rest =>
         clear HC19
         try clear c1
         try clear c2
         try clear p2
         try clear q2
         try clear hx2
         try clear c4
         try clear c5
         try clear p6
         try clear c19
         try clear c20
         try clear p25
         try clear q25
         try clear hx25
         try clear p26
         try clear q26
         try clear hx26
         try clear c47
         try clear c50
         try clear c51
         try clear hcz52_0
         try clear hcz52_1
         try clear hcz52_2
         try clear hcz52_3
         try clear hcz52_4
         try clear hfz52_0
         try clear hfz52_1
         try clear hfz52_2
         try clear hfz52_3
         try clear hfz52_4
         try clear p257
         try clear p263
         try clear p269
         try clear q257
         try clear q263
         try clear q269
         obtain ⟨kq, x278000_18, x278001_18, x278002_18, x278003_18, x278004_18, HA, HJ18, BK275, BK276, BK277, HB⟩ := hcut
         cases kq with
         | zero => exact absurd HA.out (by simp [recensionlaw5_TokenOps.j0])
         | succ kj18 =>
          have H := HA.out
          clear HA
          simp only [recensionlaw5_TokenOps.j0] at H
          replace H := Option.bind_eq_some_iff.mp H
          obtain ⟨t283, A540, H⟩ := H
          replace H : ((recensionref1_Space.f kj18 x278000_18 x278001_18 x278002_18 x278003_18 x278004_18 t258 t259 t260 t261 t262 t264 t265 t266 t267 t268).bind fun t284 => (if (t283 == t284) = true then ((recensionlaw5_word.f (⟨#[121]⟩ : ByteArray)).bind fun bt285 => ((token_Space.f kj18 x278000_18 x278001_18 x278002_18 x278003_18 x278004_18 t258 t259 t260 t261 t262 bt285.1 bt285.2.1 bt285.2.2.1 bt285.2.2.2.1 bt285.2.2.2.2).bind fun t290 => ((recensionlaw5_word.f (⟨#[121]⟩ : ByteArray)).bind fun bt291 => ((recensionref1_Space.f kj18 x278000_18 x278001_18 x278002_18 x278003_18 x278004_18 t258 t259 t260 t261 t262 bt291.1 bt291.2.1 bt291.2.2.1 bt291.2.2.2.1 bt291.2.2.2.2).bind fun t296 => (if (t290 == t296) = true then ((recensionlaw5_word.f (⟨#[121]⟩ : ByteArray)).bind fun bt297 => ((token_Space.f kj18 x278000_18 x278001_18 x278002_18 x278003_18 x278004_18 bt297.1 bt297.2.1 bt297.2.2.1 bt297.2.2.2.1 bt297.2.2.2.2 t264 t265 t266 t267 t268).bind fun t302 => ((recensionlaw5_word.f (⟨#[121]⟩ : ByteArray)).bind fun bt303 => ((recensionref1_Space.f kj18 x278000_18 x278001_18 x278002_18 x278003_18 x278004_18 bt303.1 bt303.2.1 bt303.2.2.1 bt303.2.2.2.1 bt303.2.2.2.2 t264 t265 t266 t267 t268).bind fun t308 => (if (t302 == t308) = true then ((token_Op.f kj18 t259).bind fun t309 => (if t309 = true then ((token_Rank.f kj18 t259).bind fun t310 => ((recensionref1_Rank.f kj18 t259).bind fun t311 => (some (t310 == t311)))) else (some false))) else (some false)))))) else (some false)))))) else (some false))) = some r := H
          have A54 := Aside0.mk A540
          clear A540
          replace H := Option.bind_eq_some_iff.mp H
          obtain ⟨t284, A550, H⟩ := H
          replace H : (if (t283 == t284) = true then ((recensionlaw5_word.f (⟨#[121]⟩ : ByteArray)).bind fun bt285 => ((token_Space.f kj18 x278000_18 x278001_18 x278002_18 x278003_18 x278004_18 t258 t259 t260 t261 t262 bt285.1 bt285.2.1 bt285.2.2.1 bt285.2.2.2.1 bt285.2.2.2.2).bind fun t290 => ((recensionlaw5_word.f (⟨#[121]⟩ : ByteArray)).bind fun bt291 => ((recensionref1_Space.f kj18 x278000_18 x278001_18 x278002_18 x278003_18 x278004_18 t258 t259 t260 t261 t262 bt291.1 bt291.2.1 bt291.2.2.1 bt291.2.2.2.1 bt291.2.2.2.2).bind fun t296 => (if (t290 == t296) = true then ((recensionlaw5_word.f (⟨#[121]⟩ : ByteArray)).bind fun bt297 => ((token_Space.f kj18 x278000_18 x278001_18 x278002_18 x278003_18 x278004_18 bt297.1 bt297.2.1 bt297.2.2.1 bt297.2.2.2.1 bt297.2.2.2.2 t264 t265 t266 t267 t268).bind fun t302 => ((recensionlaw5_word.f (⟨#[121]⟩ : ByteArray)).bind fun bt303 => ((recensionref1_Space.f kj18 x278000_18 x278001_18 x278002_18 x278003_18 x278004_18 bt303.1 bt303.2.1 bt303.2.2.1 bt303.2.2.2.1 bt303.2.2.2.2 t264 t265 t266 t267 t268).bind fun t308 => (if (t302 == t308) = true then ((token_Op.f kj18 t259).bind fun t309 => (if t309 = true then ((token_Rank.f kj18 t259).bind fun t310 => ((recensionref1_Rank.f kj18 t259).bind fun t311 => (some (t310 == t311)))) else (some false))) else (some false)))))) else (some false)))))) else (some false)) = some r := H
          have A55 := Aside0.mk A550
          clear A550
          by_cases c56 : (t283 == t284) = true
          ·rw [if_pos c56] at H
           have c56b0 : (t283 == t284) = true := c56
           (try (have c56b1 : decide (t283 = t284) = true := by simpa using c56))
           (try (have c56b2 : (t283 == t284) = true := by simpa using c56))
           clear c56
           replace H := Option.bind_eq_some_iff.mp H
           obtain ⟨⟨t285, t286, t287, t288, t289⟩, A570, H⟩ := H
           replace H : ((token_Space.f kj18 x278000_18 x278001_18 x278002_18 x278003_18 x278004_18 t258 t259 t260 t261 t262 t285 t286 t287 t288 t289).bind fun t290 => ((recensionlaw5_word.f (⟨#[121]⟩ : ByteArray)).bind fun bt291 => ((recensionref1_Space.f kj18 x278000_18 x278001_18 x278002_18 x278003_18 x278004_18 t258 t259 t260 t261 t262 bt291.1 bt291.2.1 bt291.2.2.1 bt291.2.2.2.1 bt291.2.2.2.2).bind fun t296 => (if (t290 == t296) = true then ((recensionlaw5_word.f (⟨#[121]⟩ : ByteArray)).bind fun bt297 => ((token_Space.f kj18 x278000_18 x278001_18 x278002_18 x278003_18 x278004_18 bt297.1 bt297.2.1 bt297.2.2.1 bt297.2.2.2.1 bt297.2.2.2.2 t264 t265 t266 t267 t268).bind fun t302 => ((recensionlaw5_word.f (⟨#[121]⟩ : ByteArray)).bind fun bt303 => ((recensionref1_Space.f kj18 x278000_18 x278001_18 x278002_18 x278003_18 x278004_18 bt303.1 bt303.2.1 bt303.2.2.1 bt303.2.2.2.1 bt303.2.2.2.2 t264 t265 t266 t267 t268).bind fun t308 => (if (t302 == t308) = true then ((token_Op.f kj18 t259).bind fun t309 => (if t309 = true then ((token_Rank.f kj18 t259).bind fun t310 => ((recensionref1_Rank.f kj18 t259).bind fun t311 => (some (t310 == t311)))) else (some false))) else (some false)))))) else (some false))))) = some r := H
           have A57 := Aside0.mk A570
           clear A570
           replace H := Option.bind_eq_some_iff.mp H
           obtain ⟨t290, A580, H⟩ := H
           replace H : ((recensionlaw5_word.f (⟨#[121]⟩ : ByteArray)).bind fun bt291 => ((recensionref1_Space.f kj18 x278000_18 x278001_18 x278002_18 x278003_18 x278004_18 t258 t259 t260 t261 t262 bt291.1 bt291.2.1 bt291.2.2.1 bt291.2.2.2.1 bt291.2.2.2.2).bind fun t296 => (if (t290 == t296) = true then ((recensionlaw5_word.f (⟨#[121]⟩ : ByteArray)).bind fun bt297 => ((token_Space.f kj18 x278000_18 x278001_18 x278002_18 x278003_18 x278004_18 bt297.1 bt297.2.1 bt297.2.2.1 bt297.2.2.2.1 bt297.2.2.2.2 t264 t265 t266 t267 t268).bind fun t302 => ((recensionlaw5_word.f (⟨#[121]⟩ : ByteArray)).bind fun bt303 => ((recensionref1_Space.f kj18 x278000_18 x278001_18 x278002_18 x278003_18 x278004_18 bt303.1 bt303.2.1 bt303.2.2.1 bt303.2.2.2.1 bt303.2.2.2.2 t264 t265 t266 t267 t268).bind fun t308 => (if (t302 == t308) = true then ((token_Op.f kj18 t259).bind fun t309 => (if t309 = true then ((token_Rank.f kj18 t259).bind fun t310 => ((recensionref1_Rank.f kj18 t259).bind fun t311 => (some (t310 == t311)))) else (some false))) else (some false)))))) else (some false)))) = some r := H
           have A58 := Aside0.mk A580
           clear A580
           replace H := Option.bind_eq_some_iff.mp H
           obtain ⟨⟨t291, t292, t293, t294, t295⟩, A590, H⟩ := H
           replace H : ((recensionref1_Space.f kj18 x278000_18 x278001_18 x278002_18 x278003_18 x278004_18 t258 t259 t260 t261 t262 t291 t292 t293 t294 t295).bind fun t296 => (if (t290 == t296) = true then ((recensionlaw5_word.f (⟨#[121]⟩ : ByteArray)).bind fun bt297 => ((token_Space.f kj18 x278000_18 x278001_18 x278002_18 x278003_18 x278004_18 bt297.1 bt297.2.1 bt297.2.2.1 bt297.2.2.2.1 bt297.2.2.2.2 t264 t265 t266 t267 t268).bind fun t302 => ((recensionlaw5_word.f (⟨#[121]⟩ : ByteArray)).bind fun bt303 => ((recensionref1_Space.f kj18 x278000_18 x278001_18 x278002_18 x278003_18 x278004_18 bt303.1 bt303.2.1 bt303.2.2.1 bt303.2.2.2.1 bt303.2.2.2.2 t264 t265 t266 t267 t268).bind fun t308 => (if (t302 == t308) = true then ((token_Op.f kj18 t259).bind fun t309 => (if t309 = true then ((token_Rank.f kj18 t259).bind fun t310 => ((recensionref1_Rank.f kj18 t259).bind fun t311 => (some (t310 == t311)))) else (some false))) else (some false)))))) else (some false))) = some r := H
           have A59 := Aside0.mk A590
           clear A590
           replace H := Option.bind_eq_some_iff.mp H
           obtain ⟨t296, A600, H⟩ := H
           replace H : (if (t290 == t296) = true then ((recensionlaw5_word.f (⟨#[121]⟩ : ByteArray)).bind fun bt297 => ((token_Space.f kj18 x278000_18 x278001_18 x278002_18 x278003_18 x278004_18 bt297.1 bt297.2.1 bt297.2.2.1 bt297.2.2.2.1 bt297.2.2.2.2 t264 t265 t266 t267 t268).bind fun t302 => ((recensionlaw5_word.f (⟨#[121]⟩ : ByteArray)).bind fun bt303 => ((recensionref1_Space.f kj18 x278000_18 x278001_18 x278002_18 x278003_18 x278004_18 bt303.1 bt303.2.1 bt303.2.2.1 bt303.2.2.2.1 bt303.2.2.2.2 t264 t265 t266 t267 t268).bind fun t308 => (if (t302 == t308) = true then ((token_Op.f kj18 t259).bind fun t309 => (if t309 = true then ((token_Rank.f kj18 t259).bind fun t310 => ((recensionref1_Rank.f kj18 t259).bind fun t311 => (some (t310 == t311)))) else (some false))) else (some false)))))) else (some false)) = some r := H
           have A60 := Aside0.mk A600
           clear A600
           by_cases c61 : (t290 == t296) = true
           ·rw [if_pos c61] at H
            have c61b0 : (t290 == t296) = true := c61
            (try (have c61b1 : decide (t290 = t296) = true := by simpa using c61))
            (try (have c61b2 : (t290 == t296) = true := by simpa using c61))
            clear c61
            replace H := Option.bind_eq_some_iff.mp H
            obtain ⟨⟨t297, t298, t299, t300, t301⟩, A620, H⟩ := H
            replace H : ((token_Space.f kj18 x278000_18 x278001_18 x278002_18 x278003_18 x278004_18 t297 t298 t299 t300 t301 t264 t265 t266 t267 t268).bind fun t302 => ((recensionlaw5_word.f (⟨#[121]⟩ : ByteArray)).bind fun bt303 => ((recensionref1_Space.f kj18 x278000_18 x278001_18 x278002_18 x278003_18 x278004_18 bt303.1 bt303.2.1 bt303.2.2.1 bt303.2.2.2.1 bt303.2.2.2.2 t264 t265 t266 t267 t268).bind fun t308 => (if (t302 == t308) = true then ((token_Op.f kj18 t259).bind fun t309 => (if t309 = true then ((token_Rank.f kj18 t259).bind fun t310 => ((recensionref1_Rank.f kj18 t259).bind fun t311 => (some (t310 == t311)))) else (some false))) else (some false))))) = some r := H
            have A62 := Aside0.mk A620
            clear A620
            replace H := Option.bind_eq_some_iff.mp H
            obtain ⟨t302, A630, H⟩ := H
            replace H : ((recensionlaw5_word.f (⟨#[121]⟩ : ByteArray)).bind fun bt303 => ((recensionref1_Space.f kj18 x278000_18 x278001_18 x278002_18 x278003_18 x278004_18 bt303.1 bt303.2.1 bt303.2.2.1 bt303.2.2.2.1 bt303.2.2.2.2 t264 t265 t266 t267 t268).bind fun t308 => (if (t302 == t308) = true then ((token_Op.f kj18 t259).bind fun t309 => (if t309 = true then ((token_Rank.f kj18 t259).bind fun t310 => ((recensionref1_Rank.f kj18 t259).bind fun t311 => (some (t310 == t311)))) else (some false))) else (some false)))) = some r := H
            have A63 := Aside0.mk A630
            clear A630
            replace H := Option.bind_eq_some_iff.mp H
            obtain ⟨⟨t303, t304, t305, t306, t307⟩, A640, H⟩ := H
            replace H : ((recensionref1_Space.f kj18 x278000_18 x278001_18 x278002_18 x278003_18 x278004_18 t303 t304 t305 t306 t307 t264 t265 t266 t267 t268).bind fun t308 => (if (t302 == t308) = true then ((token_Op.f kj18 t259).bind fun t309 => (if t309 = true then ((token_Rank.f kj18 t259).bind fun t310 => ((recensionref1_Rank.f kj18 t259).bind fun t311 => (some (t310 == t311)))) else (some false))) else (some false))) = some r := H
            have A64 := Aside0.mk A640
            clear A640
            replace H := Option.bind_eq_some_iff.mp H
            obtain ⟨t308, A650, H⟩ := H
            replace H : (if (t302 == t308) = true then ((token_Op.f kj18 t259).bind fun t309 => (if t309 = true then ((token_Rank.f kj18 t259).bind fun t310 => ((recensionref1_Rank.f kj18 t259).bind fun t311 => (some (t310 == t311)))) else (some false))) else (some false)) = some r := H
            have A65 := Aside0.mk A650
            clear A650
            by_cases c66 : (t302 == t308) = true
            ·rw [if_pos c66] at H
             have c66b0 : (t302 == t308) = true := c66
             (try (have c66b1 : decide (t302 = t308) = true := by simpa using c66))
             (try (have c66b2 : (t302 == t308) = true := by simpa using c66))
             clear c66
             replace H := Option.bind_eq_some_iff.mp H
             obtain ⟨t309, A670, H⟩ := H
             replace H : (if t309 = true then ((token_Rank.f kj18 t259).bind fun t310 => ((recensionref1_Rank.f kj18 t259).bind fun t311 => (some (t310 == t311)))) else (some false)) = some r := H
             have A67 := Aside0.mk A670
             clear A670
             by_cases c68 : t309 = true
             ·subst c68
              have H1 : ((token_Rank.f kj18 t259).bind fun t310 => ((recensionref1_Rank.f kj18 t259).bind fun t311 => (some (t310 == t311)))) = some r := by rw [if_pos rfl] at H; exact H
              clear H
              have H := H1
              clear H1
              replace H := Option.bind_eq_some_iff.mp H
              obtain ⟨t310, A690, H⟩ := H
              replace H : ((recensionref1_Rank.f kj18 t259).bind fun t311 => (some (t310 == t311))) = some r := H
              have A69 := Aside0.mk A690
              clear A690
              replace H := Option.bind_eq_some_iff.mp H
              obtain ⟨t311, A700, H⟩ := H
              replace H : (some (t310 == t311)) = some r := H
              have A70 := Aside0.mk A700
              clear A700
              obtain rfl := Option.some.inj H
              try go_wp2
              have n0_ := Aside0.mk (blk_drew BK275.out)
              have n1_ := Aside0.mk (blk_drew BK276.out)
              have n2_ := Aside0.mk (blk_drew BK277.out)
              have n3_ := Aside0.mk (below_drew1 HB.out)
              clear BK275
              clear BK276
              clear BK277
              clear HB
              have BK275 := n0_
              have BK276 := n1_
              have BK277 := n2_
              have HB := n3_
              clear n0_ n1_ n2_ n3_
              refine start_ (n := 46) (S := fun w' => w'.cell? ⟨gb277, 0, none⟩ = some (.int .i64 x278000_18) ∧ w'.cell? ⟨gb277, 1, none⟩ = some (.string x278001_18) ∧ w'.cell? ⟨gb277, 2, none⟩ = some (.int .i64 x278002_18) ∧ w'.cell? ⟨gb277, 3, none⟩ = some (.int .i64 x278003_18) ∧ w'.cell? ⟨gb277, 4, none⟩ = some (.bool x278004_18) ∧ w'.cell? ⟨gb275, 0, none⟩ = some (.int .i64 t258) ∧ w'.cell? ⟨gb275, 1, none⟩ = some (.string t259) ∧ w'.cell? ⟨gb275, 2, none⟩ = some (.int .i64 t260) ∧ w'.cell? ⟨gb275, 3, none⟩ = some (.int .i64 t261) ∧ w'.cell? ⟨gb275, 4, none⟩ = some (.bool t262) ∧ w'.cell? ⟨gb276, 0, none⟩ = some (.int .i64 t264) ∧ w'.cell? ⟨gb276, 1, none⟩ = some (.string t265) ∧ w'.cell? ⟨gb276, 2, none⟩ = some (.int .i64 t266) ∧ w'.cell? ⟨gb276, 3, none⟩ = some (.int .i64 t267) ∧ w'.cell? ⟨gb276, 4, none⟩ = some (.bool t268)) (ds := []) #[false, false, false, false, false, false, false, false, false, false, false, false, false, false, false, false, false, false, false, false, false, false, false, false, false, false, false, false, false, false, false, false, false, false, false, false, false, false, false, false, false, false, false, false, false, false] (by kernel_rfl) rfl rfl ⟨(blk_cell BK277.out 0).trans rfl, (blk_cell BK277.out 1).trans rfl, (blk_cell BK277.out 2).trans rfl, (blk_cell BK277.out 3).trans rfl, (blk_cell BK277.out 4).trans rfl, (blk_cell BK275.out 0).trans rfl, (blk_cell BK275.out 1).trans rfl, (blk_cell BK275.out 2).trans rfl, (blk_cell BK275.out 3).trans rfl, (blk_cell BK275.out 4).trans rfl, (blk_cell BK276.out 0).trans rfl, (blk_cell BK276.out 1).trans rfl, (blk_cell BK276.out 2).trans rfl, (blk_cell BK276.out 3).trans rfl, (blk_cell BK276.out 4).trans rfl⟩ (fun hHeld => ?_); refine with_tabW recensionlaw5_TokenOps.tab8 recensionlaw5_TokenOps.bits8 (fun HT_ HW_ => ?_)
              generalize wc.drew = w71 at BK275 BK276 BK277 HB hHeld ⊢
              refine take_ (i := 0) (N := some 44) (v := ?_) (a' := ?_) #[true, false, false, false, false, false, false, false, false, false, false, false, false, false, false, false, false, false, false, false, false, false, false, false, false, false, false, false, false, false, false, false, false, false, false, false, false, false, false, false, false, false, false, false, false, false] rfl rfl (take_ofW HT_.out HW_.out (by kernel_rfl)) (fun _ _ _ h => h) (Or.inl ⟨by rfl, ?_⟩) hHeld ?_ ?_
              rotate_left
              ·rintro w' ⟨s0, s1, s2, s3, s4, s5, s6, s7, s8, s9, s10, s11, s12, s13, s14⟩
               go_simp
               with_reducible rfl
              rotate_left
              ·simp only [Act.put, List.setIfInBounds_toArray, List.set_cons_zero, List.set_cons_succ, i64_w, i32_w]
               rfl
              refine take_ (i := 1) (N := some 45) (v := ?_) (a' := ?_) #[true, true, false, false, false, false, false, false, false, false, false, false, false, false, false, false, false, false, false, false, false, false, false, false, false, false, false, false, false, false, false, false, false, false, false, false, false, false, false, false, false, false, false, false, false, false] rfl rfl (take_ofW HT_.out HW_.out (by kernel_rfl)) (fun _ _ _ h => h) (Or.inl ⟨by rfl, ?_⟩) hHeld ?_ ?_
              rotate_left
              ·rintro w' ⟨s0, s1, s2, s3, s4, s5, s6, s7, s8, s9, s10, s11, s12, s13, s14⟩
               go_simp
               with_reducible rfl
              rotate_left
              ·simp only [Act.put, List.setIfInBounds_toArray, List.set_cons_zero, List.set_cons_succ, i64_w, i32_w]
               rfl
              refine take_ (i := 2) (N := some 46) (v := ?_) (a' := ?_) #[true, true, true, false, false, false, false, false, false, false, false, false, false, false, false, false, false, false, false, false, false, false, false, false, false, false, false, false, false, false, false, false, false, false, false, false, false, false, false, false, false, false, false, false, false, false] rfl rfl (take_ofW HT_.out HW_.out (by kernel_rfl)) (fun _ _ _ h => h) (Or.inl ⟨by rfl, ?_⟩) hHeld ?_ ?_
              rotate_left
              ·rintro w' ⟨s0, s1, s2, s3, s4, s5, s6, s7, s8, s9, s10, s11, s12, s13, s14⟩
               go_simp
               with_reducible rfl
              rotate_left
              ·simp only [Act.put, List.setIfInBounds_toArray, List.set_cons_zero, List.set_cons_succ, i64_w, i32_w]
               rfl
              refine take_ (i := 4) (N := some 48) (v := ?_) (a' := ?_) #[true, true, true, false, true, false, false, false, false, false, false, false, false, false, false, false, false, false, false, false, false, false, false, false, false, false, false, false, false, false, false, false, false, false, false, false, false, false, false, false, false, false, false, false, false, false] rfl rfl (take_ofW HT_.out HW_.out (by kernel_rfl)) (fun _ _ _ h => h) (Or.inl ⟨by rfl, ?_⟩) hHeld ?_ ?_
              rotate_left
              ·rintro w' ⟨s0, s1, s2, s3, s4, s5, s6, s7, s8, s9, s10, s11, s12, s13, s14⟩
               go_simp
               with_reducible rfl
              rotate_left
              ·simp only [Act.put, List.setIfInBounds_toArray, List.set_cons_zero, List.set_cons_succ, i64_w, i32_w]
               rfl
              refine take_ (i := 5) (N := some 49) (v := ?_) (a' := ?_) #[true, true, true, false, true, true, false, false, false, false, false, false, false, false, false, false, false, false, false, false, false, false, false, false, false, false, false, false, false, false, false, false, false, false, false, false, false, false, false, false, false, false, false, false, false, false] rfl rfl (take_ofW HT_.out HW_.out (by kernel_rfl)) (fun _ _ _ h => h) (Or.inl ⟨by rfl, ?_⟩) hHeld ?_ ?_
              rotate_left
              ·rintro w' ⟨s0, s1, s2, s3, s4, s5, s6, s7, s8, s9, s10, s11, s12, s13, s14⟩
               go_simp
               with_reducible rfl
              rotate_left
              ·simp only [Act.put, List.setIfInBounds_toArray, List.set_cons_zero, List.set_cons_succ, i64_w, i32_w]
               rfl
              refine take_ (i := 6) (N := some 50) (v := ?_) (a' := ?_) #[true, true, true, false, true, true, true, false, false, false, false, false, false, false, false, false, false, false, false, false, false, false, false, false, false, false, false, false, false, false, false, false, false, false, false, false, false, false, false, false, false, false, false, false, false, false] rfl rfl (take_ofW HT_.out HW_.out (by kernel_rfl)) (fun _ _ _ h => h) (Or.inl ⟨by rfl, ?_⟩) hHeld ?_ ?_
              rotate_left
              ·rintro w' ⟨s0, s1, s2, s3, s4, s5, s6, s7, s8, s9, s10, s11, s12, s13, s14⟩
               go_simp
               with_reducible rfl
              rotate_left
              ·simp only [Act.put, List.setIfInBounds_toArray, List.set_cons_zero, List.set_cons_succ, i64_w, i32_w]
               rfl
              refine one_ (i := 3) (N := some 47) #[true, true, true, true, true, true, true, false, false, false, false, false, false, false, false, false, false, false, false, false, false, false, false, false, false, false, false, false, false, false, false, false, false, false, false, false, false, false, false, false, false, false, false, false, false, false] rfl rfl (one_of HT_.out (by kernel_rfl)) (by decide) (fun K hK => ?_)
              refine goes_ Try.func17 (by kernel_rfl) rfl #[.agg #[.int .i64 x278000_18, .string x278001_18, .int .i64 x278002_18, .int .i64 x278003_18, .bool x278004_18], .agg #[.int .i64 t258, .string t259, .int .i64 t260, .int .i64 t261, .bool t262], .agg #[.int .i64 t264, .string t265, .int .i64 t266, .int .i64 t267, .bool t268]] (by rfl) rfl rfl (by (try simp only [List.map_toArray, List.map_cons, List.map_nil]); first | done | rfl | (simp only [List.length_drop, List.length_take]; rfl) | (simp only [wrap64_wl, wrap64_wr]; rfl)) ?_
              with_reducible refine (token_Space.calls kj18 x278000_18 x278001_18 x278002_18 x278003_18 x278004_18 t258 t259 t260 t261 t262 t264 t265 t266 t267 t268 t283 _ A54.out).mono ?_
              rintro e w72 ⟨rfl, hb⟩
              refine ⟨_, rfl, ?_⟩
              have n0_ := Aside0.mk (blk_below (g := gb275) (o := .cells #[.int .i64 t258, .string t259, .int .i64 t260, .int .i64 t261, .bool t262] 23 (0, 0)) (by (with_reducible repeat (first | refine blk_drewN ?_ _ | refine blk_drew ?_ | refine blk_alloc ?_ _)); exact BK275.out) hb)
              have n1_ := Aside0.mk (blk_below (g := gb276) (o := .cells #[.int .i64 t264, .string t265, .int .i64 t266, .int .i64 t267, .bool t268] 23 (0, 0)) (by (with_reducible repeat (first | refine blk_drewN ?_ _ | refine blk_drew ?_ | refine blk_alloc ?_ _)); exact BK276.out) hb)
              have n2_ := Aside0.mk (blk_below (g := gb277) (o := .cells #[.int .i64 x278000_18, .string x278001_18, .int .i64 x278002_18, .int .i64 x278003_18, .bool x278004_18] 23 (0, 0)) (by (with_reducible repeat (first | refine blk_drewN ?_ _ | refine blk_drew ?_ | refine blk_alloc ?_ _)); exact BK277.out) hb)
              have n3_ := Aside0.mk (below_step (by repeat (first | (with_reducible first | exact HB.out | apply below_alloc | apply pw_below_drewN | apply below_drew1 | refine below_set ?_ GE275.out | refine below_set ?_ GE276.out | refine below_set ?_ GE277.out) | exact HB.out)) hb)
              clear BK275
              clear BK276
              clear BK277
              clear HB
              have BK275 := n0_
              have BK276 := n1_
              have BK277 := n2_
              have HB := n3_
              clear n0_ n1_ n2_ n3_
              (try clear hb)
              (try clear hb2)
              (try clear hk)
              (try clear hi)
              refine hK.out _ _ ⟨(blk_cell BK277.out 0).trans rfl, (blk_cell BK277.out 1).trans rfl, (blk_cell BK277.out 2).trans rfl, (blk_cell BK277.out 3).trans rfl, (blk_cell BK277.out 4).trans rfl, (blk_cell BK275.out 0).trans rfl, (blk_cell BK275.out 1).trans rfl, (blk_cell BK275.out 2).trans rfl, (blk_cell BK275.out 3).trans rfl, (blk_cell BK275.out 4).trans rfl, (blk_cell BK276.out 0).trans rfl, (blk_cell BK276.out 1).trans rfl, (blk_cell BK276.out 2).trans rfl, (blk_cell BK276.out 3).trans rfl, (blk_cell BK276.out 4).trans rfl⟩ (fun hHeld => ?_)
              clear hK K
              refine norm_ (a' := ?_) ?_ ?_
              rotate_left
              ·show Act.put _ (some 47) _ = _
               simp only [Act.put, List.setIfInBounds_toArray, List.set_cons_zero, List.set_cons_succ, i64_w, i32_w]
               rfl
              refine one_ (i := 7) (N := some 51) #[true, true, true, true, true, true, true, true, false, false, false, false, false, false, false, false, false, false, false, false, false, false, false, false, false, false, false, false, false, false, false, false, false, false, false, false, false, false, false, false, false, false, false, false, false, false] rfl rfl (one_of HT_.out (by kernel_rfl)) (by decide) (fun K hK => ?_)
              refine goes_ Try.func18 (by kernel_rfl) rfl #[.agg #[.int .i64 x278000_18, .string x278001_18, .int .i64 x278002_18, .int .i64 x278003_18, .bool x278004_18], .agg #[.int .i64 t258, .string t259, .int .i64 t260, .int .i64 t261, .bool t262], .agg #[.int .i64 t264, .string t265, .int .i64 t266, .int .i64 t267, .bool t268]] (by rfl) rfl rfl (by (try simp only [List.map_toArray, List.map_cons, List.map_nil]); first | done | rfl | (simp only [List.length_drop, List.length_take]; rfl) | (simp only [wrap64_wl, wrap64_wr]; rfl)) ?_
              with_reducible refine (recensionref1_Space.calls kj18 x278000_18 x278001_18 x278002_18 x278003_18 x278004_18 t258 t259 t260 t261 t262 t264 t265 t266 t267 t268 t284 _ A55.out).mono ?_
              rintro e w73 ⟨rfl, hb⟩
              refine ⟨_, rfl, ?_⟩
              have n0_ := Aside0.mk (blk_below (g := gb275) (o := .cells #[.int .i64 t258, .string t259, .int .i64 t260, .int .i64 t261, .bool t262] 23 (0, 0)) (by (with_reducible repeat (first | refine blk_drewN ?_ _ | refine blk_drew ?_ | refine blk_alloc ?_ _)); exact BK275.out) hb)
              have n1_ := Aside0.mk (blk_below (g := gb276) (o := .cells #[.int .i64 t264, .string t265, .int .i64 t266, .int .i64 t267, .bool t268] 23 (0, 0)) (by (with_reducible repeat (first | refine blk_drewN ?_ _ | refine blk_drew ?_ | refine blk_alloc ?_ _)); exact BK276.out) hb)
              have n2_ := Aside0.mk (blk_below (g := gb277) (o := .cells #[.int .i64 x278000_18, .string x278001_18, .int .i64 x278002_18, .int .i64 x278003_18, .bool x278004_18] 23 (0, 0)) (by (with_reducible repeat (first | refine blk_drewN ?_ _ | refine blk_drew ?_ | refine blk_alloc ?_ _)); exact BK277.out) hb)
              have n3_ := Aside0.mk (below_step (by repeat (first | (with_reducible first | exact HB.out | apply below_alloc | apply pw_below_drewN | apply below_drew1 | refine below_set ?_ GE275.out | refine below_set ?_ GE276.out | refine below_set ?_ GE277.out) | exact HB.out)) hb)
              clear BK275
              clear BK276
              clear BK277
              clear HB
              have BK275 := n0_
              have BK276 := n1_
              have BK277 := n2_
              have HB := n3_
              clear n0_ n1_ n2_ n3_
              (try clear hb)
              (try clear hb2)
              (try clear hk)
              (try clear hi)
              refine hK.out _ _ ⟨(blk_cell BK277.out 0).trans rfl, (blk_cell BK277.out 1).trans rfl, (blk_cell BK277.out 2).trans rfl, (blk_cell BK277.out 3).trans rfl, (blk_cell BK277.out 4).trans rfl, (blk_cell BK275.out 0).trans rfl, (blk_cell BK275.out 1).trans rfl, (blk_cell BK275.out 2).trans rfl, (blk_cell BK275.out 3).trans rfl, (blk_cell BK275.out 4).trans rfl, (blk_cell BK276.out 0).trans rfl, (blk_cell BK276.out 1).trans rfl, (blk_cell BK276.out 2).trans rfl, (blk_cell BK276.out 3).trans rfl, (blk_cell BK276.out 4).trans rfl⟩ (fun hHeld => ?_)
              clear hK K
              refine norm_ (a' := ?_) ?_ ?_
              rotate_left
              ·show Act.put _ (some 51) _ = _
               simp only [Act.put, List.setIfInBounds_toArray, List.set_cons_zero, List.set_cons_succ, i64_w, i32_w]
               rfl
              refine pure_ (i := 8) (N := some 52) (v := ?_) (a' := ?_) #[true, true, true, true, true, true, true, true, true, false, false, false, false, false, false, false, false, false, false, false, false, false, false, false, false, false, false, false, false, false, false, false, false, false, false, false, false, false, false, false, false, false, false, false, false, false] rfl rfl (any_of HT_.out (by kernel_rfl)) (fun _ _ _ h => h) (Or.inl ⟨by rfl, ?_⟩) ?_ ?_
              rotate_left
              ·intro w'
               go_simp
               with_reducible rfl
              rotate_left
              ·simp only [Act.put, List.setIfInBounds_toArray, List.set_cons_zero, List.set_cons_succ, i64_w, i32_w]
               rfl
              refine pure_ (i := 9) (N := some 53) (v := ?_) (a' := ?_) #[true, true, true, true, true, true, true, true, true, true, false, false, false, false, false, false, false, false, false, false, false, false, false, false, false, false, false, false, false, false, false, false, false, false, false, false, false, false, false, false, false, false, false, false, false, false] rfl rfl (any_of HT_.out (by kernel_rfl)) (fun _ _ _ h => h) (Or.inl ⟨by rfl, ?_⟩) ?_ ?_
              rotate_left
              ·intro w'
               go_simp
               with_reducible rfl
              rotate_left
              ·simp only [Act.put, List.setIfInBounds_toArray, List.set_cons_zero, List.set_cons_succ, i64_w, i32_w]
               rfl
              refine take_ (i := 10) (N := some 54) (v := ?_) (a' := ?_) #[true, true, true, true, true, true, true, true, true, true, true, false, false, false, false, false, false, false, false, false, false, false, false, false, false, false, false, false, false, false, false, false, false, false, false, false, false, false, false, false, false, false, false, false, false, false] rfl rfl (take_ofW HT_.out HW_.out (by kernel_rfl)) (fun _ _ _ h => h) (Or.inl ⟨by rfl, ?_⟩) hHeld ?_ ?_
              rotate_left
              ·rintro w' ⟨s0, s1, s2, s3, s4, s5, s6, s7, s8, s9, s10, s11, s12, s13, s14⟩
               go_simp
               with_reducible rfl
              rotate_left
              ·simp only [Act.put, List.setIfInBounds_toArray, List.set_cons_zero, List.set_cons_succ, i64_w, i32_w]
               rfl
              refine take_ (i := 11) (N := some 55) (v := ?_) (a' := ?_) #[true, true, true, true, true, true, true, true, true, true, true, true, false, false, false, false, false, false, false, false, false, false, false, false, false, false, false, false, false, false, false, false, false, false, false, false, false, false, false, false, false, false, false, false, false, false] rfl rfl (take_ofW HT_.out HW_.out (by kernel_rfl)) (fun _ _ _ h => h) (Or.inl ⟨by rfl, ?_⟩) hHeld ?_ ?_
              rotate_left
              ·rintro w' ⟨s0, s1, s2, s3, s4, s5, s6, s7, s8, s9, s10, s11, s12, s13, s14⟩
               go_simp
               with_reducible rfl
              rotate_left
              ·simp only [Act.put, List.setIfInBounds_toArray, List.set_cons_zero, List.set_cons_succ, i64_w, i32_w]
               rfl
              refine take_ (i := 14) (N := some 58) (v := ?_) (a' := ?_) #[true, true, true, true, true, true, true, true, true, true, true, true, false, false, true, false, false, false, false, false, false, false, false, false, false, false, false, false, false, false, false, false, false, false, false, false, false, false, false, false, false, false, false, false, false, false] rfl rfl (take_ofW HT_.out HW_.out (by kernel_rfl)) (fun _ _ _ h => h) (Or.inl ⟨by rfl, ?_⟩) hHeld ?_ ?_
              rotate_left
              ·rintro w' ⟨s0, s1, s2, s3, s4, s5, s6, s7, s8, s9, s10, s11, s12, s13, s14⟩
               go_simp
               with_reducible rfl
              rotate_left
              ·simp only [Act.put, List.setIfInBounds_toArray, List.set_cons_zero, List.set_cons_succ, i64_w, i32_w]
               rfl
              refine take_ (i := 15) (N := some 59) (v := ?_) (a' := ?_) #[true, true, true, true, true, true, true, true, true, true, true, true, false, false, true, true, false, false, false, false, false, false, false, false, false, false, false, false, false, false, false, false, false, false, false, false, false, false, false, false, false, false, false, false, false, false] rfl rfl (take_ofW HT_.out HW_.out (by kernel_rfl)) (fun _ _ _ h => h) (Or.inl ⟨by rfl, ?_⟩) hHeld ?_ ?_
              rotate_left
              ·rintro w' ⟨s0, s1, s2, s3, s4, s5, s6, s7, s8, s9, s10, s11, s12, s13, s14⟩
               go_simp
               with_reducible rfl
              rotate_left
              ·simp only [Act.put, List.setIfInBounds_toArray, List.set_cons_zero, List.set_cons_succ, i64_w, i32_w]
               rfl
              refine one_ (i := 12) (N := some 56) #[true, true, true, true, true, true, true, true, true, true, true, true, true, false, true, true, false, false, false, false, false, false, false, false, false, false, false, false, false, false, false, false, false, false, false, false, false, false, false, false, false, false, false, false, false, false] rfl rfl (one_of HT_.out (by kernel_rfl)) (by decide) (fun K hK => ?_)
              refine goes_ Try.func20 (by kernel_rfl) rfl #[.string (⟨#[121]⟩ : ByteArray)] (by rfl) rfl rfl (by (try simp only [List.map_toArray, List.map_cons, List.map_nil]); first | done | rfl | (simp only [List.length_drop, List.length_take]; rfl) | (simp only [wrap64_wl, wrap64_wr]; rfl)) ?_
              with_reducible refine (recensionlaw5_word.calls (⟨#[121]⟩ : ByteArray) t285 t286 t287 t288 t289 _ A57.out).mono ?_
              rintro e w74 ⟨rfl, hb⟩
              refine ⟨_, rfl, ?_⟩
              have n0_ := Aside0.mk (blk_below (g := gb275) (o := .cells #[.int .i64 t258, .string t259, .int .i64 t260, .int .i64 t261, .bool t262] 23 (0, 0)) (by (with_reducible repeat (first | refine blk_drewN ?_ _ | refine blk_drew ?_ | refine blk_alloc ?_ _)); exact BK275.out) hb)
              have n1_ := Aside0.mk (blk_below (g := gb276) (o := .cells #[.int .i64 t264, .string t265, .int .i64 t266, .int .i64 t267, .bool t268] 23 (0, 0)) (by (with_reducible repeat (first | refine blk_drewN ?_ _ | refine blk_drew ?_ | refine blk_alloc ?_ _)); exact BK276.out) hb)
              have n2_ := Aside0.mk (blk_below (g := gb277) (o := .cells #[.int .i64 x278000_18, .string x278001_18, .int .i64 x278002_18, .int .i64 x278003_18, .bool x278004_18] 23 (0, 0)) (by (with_reducible repeat (first | refine blk_drewN ?_ _ | refine blk_drew ?_ | refine blk_alloc ?_ _)); exact BK277.out) hb)
              have n3_ := Aside0.mk (below_step (by repeat (first | (with_reducible first | exact HB.out | apply below_alloc | apply pw_below_drewN | apply below_drew1 | refine below_set ?_ GE275.out | refine below_set ?_ GE276.out | refine below_set ?_ GE277.out) | exact HB.out)) hb)
              clear BK275
              clear BK276
              clear BK277
              clear HB
              have BK275 := n0_
              have BK276 := n1_
              have BK277 := n2_
              have HB := n3_
              clear n0_ n1_ n2_ n3_
              (try clear hb)
              (try clear hb2)
              (try clear hk)
              (try clear hi)
              refine hK.out _ _ ⟨(blk_cell BK277.out 0).trans rfl, (blk_cell BK277.out 1).trans rfl, (blk_cell BK277.out 2).trans rfl, (blk_cell BK277.out 3).trans rfl, (blk_cell BK277.out 4).trans rfl, (blk_cell BK275.out 0).trans rfl, (blk_cell BK275.out 1).trans rfl, (blk_cell BK275.out 2).trans rfl, (blk_cell BK275.out 3).trans rfl, (blk_cell BK275.out 4).trans rfl, (blk_cell BK276.out 0).trans rfl, (blk_cell BK276.out 1).trans rfl, (blk_cell BK276.out 2).trans rfl, (blk_cell BK276.out 3).trans rfl, (blk_cell BK276.out 4).trans rfl⟩ (fun hHeld => ?_)
              clear hK K
              refine norm_ (a' := ?_) ?_ ?_
              rotate_left
              ·show Act.put _ (some 56) _ = _
               simp only [Act.put, List.setIfInBounds_toArray, List.set_cons_zero, List.set_cons_succ, i64_w, i32_w]
               rfl
              refine one_ (i := 13) (N := some 57) #[true, true, true, true, true, true, true, true, true, true, true, true, true, true, true, true, false, false, false, false, false, false, false, false, false, false, false, false, false, false, false, false, false, false, false, false, false, false, false, false, false, false, false, false, false, false] rfl rfl (one_of HT_.out (by kernel_rfl)) (by decide) (fun K hK => ?_)
              refine goes_ Try.func17 (by kernel_rfl) rfl #[.agg #[.int .i64 x278000_18, .string x278001_18, .int .i64 x278002_18, .int .i64 x278003_18, .bool x278004_18], .agg #[.int .i64 t258, .string t259, .int .i64 t260, .int .i64 t261, .bool t262], .agg #[.int .i64 t285, .string t286, .int .i64 t287, .int .i64 t288, .bool t289]] (by rfl) rfl rfl (by (try simp only [List.map_toArray, List.map_cons, List.map_nil]); first | done | rfl | (simp only [List.length_drop, List.length_take]; rfl) | (simp only [wrap64_wl, wrap64_wr]; rfl)) ?_
              with_reducible refine (token_Space.calls kj18 x278000_18 x278001_18 x278002_18 x278003_18 x278004_18 t258 t259 t260 t261 t262 t285 t286 t287 t288 t289 t290 _ A58.out).mono ?_
              rintro e w75 ⟨rfl, hb⟩
              refine ⟨_, rfl, ?_⟩
              have n0_ := Aside0.mk (blk_below (g := gb275) (o := .cells #[.int .i64 t258, .string t259, .int .i64 t260, .int .i64 t261, .bool t262] 23 (0, 0)) (by (with_reducible repeat (first | refine blk_drewN ?_ _ | refine blk_drew ?_ | refine blk_alloc ?_ _)); exact BK275.out) hb)
              have n1_ := Aside0.mk (blk_below (g := gb276) (o := .cells #[.int .i64 t264, .string t265, .int .i64 t266, .int .i64 t267, .bool t268] 23 (0, 0)) (by (with_reducible repeat (first | refine blk_drewN ?_ _ | refine blk_drew ?_ | refine blk_alloc ?_ _)); exact BK276.out) hb)
              have n2_ := Aside0.mk (blk_below (g := gb277) (o := .cells #[.int .i64 x278000_18, .string x278001_18, .int .i64 x278002_18, .int .i64 x278003_18, .bool x278004_18] 23 (0, 0)) (by (with_reducible repeat (first | refine blk_drewN ?_ _ | refine blk_drew ?_ | refine blk_alloc ?_ _)); exact BK277.out) hb)
              have n3_ := Aside0.mk (below_step (by repeat (first | (with_reducible first | exact HB.out | apply below_alloc | apply pw_below_drewN | apply below_drew1 | refine below_set ?_ GE275.out | refine below_set ?_ GE276.out | refine below_set ?_ GE277.out) | exact HB.out)) hb)
              clear BK275
              clear BK276
              clear BK277
              clear HB
              have BK275 := n0_
              have BK276 := n1_
              have BK277 := n2_
              have HB := n3_
              clear n0_ n1_ n2_ n3_
              (try clear hb)
              (try clear hb2)
              (try clear hk)
              (try clear hi)
              refine hK.out _ _ ⟨(blk_cell BK277.out 0).trans rfl, (blk_cell BK277.out 1).trans rfl, (blk_cell BK277.out 2).trans rfl, (blk_cell BK277.out 3).trans rfl, (blk_cell BK277.out 4).trans rfl, (blk_cell BK275.out 0).trans rfl, (blk_cell BK275.out 1).trans rfl, (blk_cell BK275.out 2).trans rfl, (blk_cell BK275.out 3).trans rfl, (blk_cell BK275.out 4).trans rfl, (blk_cell BK276.out 0).trans rfl, (blk_cell BK276.out 1).trans rfl, (blk_cell BK276.out 2).trans rfl, (blk_cell BK276.out 3).trans rfl, (blk_cell BK276.out 4).trans rfl⟩ (fun hHeld => ?_)
              clear hK K
              refine norm_ (a' := ?_) ?_ ?_
              rotate_left
              ·show Act.put _ (some 57) _ = _
               simp only [Act.put, List.setIfInBounds_toArray, List.set_cons_zero, List.set_cons_succ, i64_w, i32_w]
               rfl
              refine one_ (i := 16) (N := some 60) #[true, true, true, true, true, true, true, true, true, true, true, true, true, true, true, true, true, false, false, false, false, false, false, false, false, false, false, false, false, false, false, false, false, false, false, false, false, false, false, false, false, false, false, false, false, false] rfl rfl (one_of HT_.out (by kernel_rfl)) (by decide) (fun K hK => ?_)
              refine goes_ Try.func20 (by kernel_rfl) rfl #[.string (⟨#[121]⟩ : ByteArray)] (by rfl) rfl rfl (by (try simp only [List.map_toArray, List.map_cons, List.map_nil]); first | done | rfl | (simp only [List.length_drop, List.length_take]; rfl) | (simp only [wrap64_wl, wrap64_wr]; rfl)) ?_
              with_reducible refine (recensionlaw5_word.calls (⟨#[121]⟩ : ByteArray) t291 t292 t293 t294 t295 _ A59.out).mono ?_
              rintro e w76 ⟨rfl, hb⟩
              refine ⟨_, rfl, ?_⟩
              have n0_ := Aside0.mk (blk_below (g := gb275) (o := .cells #[.int .i64 t258, .string t259, .int .i64 t260, .int .i64 t261, .bool t262] 23 (0, 0)) (by (with_reducible repeat (first | refine blk_drewN ?_ _ | refine blk_drew ?_ | refine blk_alloc ?_ _)); exact BK275.out) hb)
              have n1_ := Aside0.mk (blk_below (g := gb276) (o := .cells #[.int .i64 t264, .string t265, .int .i64 t266, .int .i64 t267, .bool t268] 23 (0, 0)) (by (with_reducible repeat (first | refine blk_drewN ?_ _ | refine blk_drew ?_ | refine blk_alloc ?_ _)); exact BK276.out) hb)
              have n2_ := Aside0.mk (blk_below (g := gb277) (o := .cells #[.int .i64 x278000_18, .string x278001_18, .int .i64 x278002_18, .int .i64 x278003_18, .bool x278004_18] 23 (0, 0)) (by (with_reducible repeat (first | refine blk_drewN ?_ _ | refine blk_drew ?_ | refine blk_alloc ?_ _)); exact BK277.out) hb)
              have n3_ := Aside0.mk (below_step (by repeat (first | (with_reducible first | exact HB.out | apply below_alloc | apply pw_below_drewN | apply below_drew1 | refine below_set ?_ GE275.out | refine below_set ?_ GE276.out | refine below_set ?_ GE277.out) | exact HB.out)) hb)
              clear BK275
              clear BK276
              clear BK277
              clear HB
              have BK275 := n0_
              have BK276 := n1_
              have BK277 := n2_
              have HB := n3_
              clear n0_ n1_ n2_ n3_
              (try clear hb)
              (try clear hb2)
              (try clear hk)
              (try clear hi)
              refine hK.out _ _ ⟨(blk_cell BK277.out 0).trans rfl, (blk_cell BK277.out 1).trans rfl, (blk_cell BK277.out 2).trans rfl, (blk_cell BK277.out 3).trans rfl, (blk_cell BK277.out 4).trans rfl, (blk_cell BK275.out 0).trans rfl, (blk_cell BK275.out 1).trans rfl, (blk_cell BK275.out 2).trans rfl, (blk_cell BK275.out 3).trans rfl, (blk_cell BK275.out 4).trans rfl, (blk_cell BK276.out 0).trans rfl, (blk_cell BK276.out 1).trans rfl, (blk_cell BK276.out 2).trans rfl, (blk_cell BK276.out 3).trans rfl, (blk_cell BK276.out 4).trans rfl⟩ (fun hHeld => ?_)
              clear hK K
              refine norm_ (a' := ?_) ?_ ?_
              rotate_left
              ·show Act.put _ (some 60) _ = _
               simp only [Act.put, List.setIfInBounds_toArray, List.set_cons_zero, List.set_cons_succ, i64_w, i32_w]
               rfl
              refine one_ (i := 17) (N := some 61) #[true, true, true, true, true, true, true, true, true, true, true, true, true, true, true, true, true, true, false, false, false, false, false, false, false, false, false, false, false, false, false, false, false, false, false, false, false, false, false, false, false, false, false, false, false, false] rfl rfl (one_of HT_.out (by kernel_rfl)) (by decide) (fun K hK => ?_)
              refine goes_ Try.func18 (by kernel_rfl) rfl #[.agg #[.int .i64 x278000_18, .string x278001_18, .int .i64 x278002_18, .int .i64 x278003_18, .bool x278004_18], .agg #[.int .i64 t258, .string t259, .int .i64 t260, .int .i64 t261, .bool t262], .agg #[.int .i64 t291, .string t292, .int .i64 t293, .int .i64 t294, .bool t295]] (by rfl) rfl rfl (by (try simp only [List.map_toArray, List.map_cons, List.map_nil]); first | done | rfl | (simp only [List.length_drop, List.length_take]; rfl) | (simp only [wrap64_wl, wrap64_wr]; rfl)) ?_
              with_reducible refine (recensionref1_Space.calls kj18 x278000_18 x278001_18 x278002_18 x278003_18 x278004_18 t258 t259 t260 t261 t262 t291 t292 t293 t294 t295 t296 _ A60.out).mono ?_
              rintro e w77 ⟨rfl, hb⟩
              refine ⟨_, rfl, ?_⟩
              have n0_ := Aside0.mk (blk_below (g := gb275) (o := .cells #[.int .i64 t258, .string t259, .int .i64 t260, .int .i64 t261, .bool t262] 23 (0, 0)) (by (with_reducible repeat (first | refine blk_drewN ?_ _ | refine blk_drew ?_ | refine blk_alloc ?_ _)); exact BK275.out) hb)
              have n1_ := Aside0.mk (blk_below (g := gb276) (o := .cells #[.int .i64 t264, .string t265, .int .i64 t266, .int .i64 t267, .bool t268] 23 (0, 0)) (by (with_reducible repeat (first | refine blk_drewN ?_ _ | refine blk_drew ?_ | refine blk_alloc ?_ _)); exact BK276.out) hb)
              have n2_ := Aside0.mk (blk_below (g := gb277) (o := .cells #[.int .i64 x278000_18, .string x278001_18, .int .i64 x278002_18, .int .i64 x278003_18, .bool x278004_18] 23 (0, 0)) (by (with_reducible repeat (first | refine blk_drewN ?_ _ | refine blk_drew ?_ | refine blk_alloc ?_ _)); exact BK277.out) hb)
              have n3_ := Aside0.mk (below_step (by repeat (first | (with_reducible first | exact HB.out | apply below_alloc | apply pw_below_drewN | apply below_drew1 | refine below_set ?_ GE275.out | refine below_set ?_ GE276.out | refine below_set ?_ GE277.out) | exact HB.out)) hb)
              clear BK275
              clear BK276
              clear BK277
              clear HB
              have BK275 := n0_
              have BK276 := n1_
              have BK277 := n2_
              have HB := n3_
              clear n0_ n1_ n2_ n3_
              (try clear hb)
              (try clear hb2)
              (try clear hk)
              (try clear hi)
              refine hK.out _ _ ⟨(blk_cell BK277.out 0).trans rfl, (blk_cell BK277.out 1).trans rfl, (blk_cell BK277.out 2).trans rfl, (blk_cell BK277.out 3).trans rfl, (blk_cell BK277.out 4).trans rfl, (blk_cell BK275.out 0).trans rfl, (blk_cell BK275.out 1).trans rfl, (blk_cell BK275.out 2).trans rfl, (blk_cell BK275.out 3).trans rfl, (blk_cell BK275.out 4).trans rfl, (blk_cell BK276.out 0).trans rfl, (blk_cell BK276.out 1).trans rfl, (blk_cell BK276.out 2).trans rfl, (blk_cell BK276.out 3).trans rfl, (blk_cell BK276.out 4).trans rfl⟩ (fun hHeld => ?_)
              clear hK K
              refine norm_ (a' := ?_) ?_ ?_
              rotate_left
              ·show Act.put _ (some 61) _ = _
               simp only [Act.put, List.setIfInBounds_toArray, List.set_cons_zero, List.set_cons_succ, i64_w, i32_w]
               rfl
              refine pure_ (i := 18) (N := some 62) (v := ?_) (a' := ?_) #[true, true, true, true, true, true, true, true, true, true, true, true, true, true, true, true, true, true, true, false, false, false, false, false, false, false, false, false, false, false, false, false, false, false, false, false, false, false, false, false, false, false, false, false, false, false] rfl rfl (any_of HT_.out (by kernel_rfl)) (fun _ _ _ h => h) (Or.inl ⟨by rfl, ?_⟩) ?_ ?_
              rotate_left
              ·intro w'
               go_simp
               with_reducible rfl
              rotate_left
              ·simp only [Act.put, List.setIfInBounds_toArray, List.set_cons_zero, List.set_cons_succ, i64_w, i32_w]
               rfl
              refine pure_ (i := 19) (N := some 63) (v := ?_) (a' := ?_) #[true, true, true, true, true, true, true, true, true, true, true, true, true, true, true, true, true, true, true, true, false, false, false, false, false, false, false, false, false, false, false, false, false, false, false, false, false, false, false, false, false, false, false, false, false, false] rfl rfl (any_of HT_.out (by kernel_rfl)) (fun _ _ _ h => h) (Or.inl ⟨by rfl, ?_⟩) ?_ ?_
              rotate_left
              ·intro w'
               go_simp
               with_reducible rfl
              rotate_left
              ·simp only [Act.put, List.setIfInBounds_toArray, List.set_cons_zero, List.set_cons_succ, i64_w, i32_w]
               rfl
              refine pure_ (i := 20) (N := some 64) (v := ?_) (a' := ?_) #[true, true, true, true, true, true, true, true, true, true, true, true, true, true, true, true, true, true, true, true, true, false, false, false, false, false, false, false, false, false, false, false, false, false, false, false, false, false, false, false, false, false, false, false, false, false] rfl rfl (any_of HT_.out (by kernel_rfl)) (fun _ _ _ h => h) (Or.inl ⟨by rfl, ?_⟩) ?_ ?_
              rotate_left
              ·intro w'
               go_simp
               with_reducible rfl
              rotate_left
              ·simp only [Act.put, List.setIfInBounds_toArray, List.set_cons_zero, List.set_cons_succ, i64_w, i32_w]
               rfl
              refine take_ (i := 21) (N := some 65) (v := ?_) (a' := ?_) #[true, true, true, true, true, true, true, true, true, true, true, true, true, true, true, true, true, true, true, true, true, true, false, false, false, false, false, false, false, false, false, false, false, false, false, false, false, false, false, false, false, false, false, false, false, false] rfl rfl (take_ofW HT_.out HW_.out (by kernel_rfl)) (fun _ _ _ h => h) (Or.inl ⟨by rfl, ?_⟩) hHeld ?_ ?_
              rotate_left
              ·rintro w' ⟨s0, s1, s2, s3, s4, s5, s6, s7, s8, s9, s10, s11, s12, s13, s14⟩
               go_simp
               with_reducible rfl
              rotate_left
              ·simp only [Act.put, List.setIfInBounds_toArray, List.set_cons_zero, List.set_cons_succ, i64_w, i32_w]
               rfl
              refine take_ (i := 23) (N := some 67) (v := ?_) (a' := ?_) #[true, true, true, true, true, true, true, true, true, true, true, true, true, true, true, true, true, true, true, true, true, true, false, true, false, false, false, false, false, false, false, false, false, false, false, false, false, false, false, false, false, false, false, false, false, false] rfl rfl (take_ofW HT_.out HW_.out (by kernel_rfl)) (fun _ _ _ h => h) (Or.inl ⟨by rfl, ?_⟩) hHeld ?_ ?_
              rotate_left
              ·rintro w' ⟨s0, s1, s2, s3, s4, s5, s6, s7, s8, s9, s10, s11, s12, s13, s14⟩
               go_simp
               with_reducible rfl
              rotate_left
              ·simp only [Act.put, List.setIfInBounds_toArray, List.set_cons_zero, List.set_cons_succ, i64_w, i32_w]
               rfl
              refine take_ (i := 25) (N := some 69) (v := ?_) (a' := ?_) #[true, true, true, true, true, true, true, true, true, true, true, true, true, true, true, true, true, true, true, true, true, true, false, true, false, true, false, false, false, false, false, false, false, false, false, false, false, false, false, false, false, false, false, false, false, false] rfl rfl (take_ofW HT_.out HW_.out (by kernel_rfl)) (fun _ _ _ h => h) (Or.inl ⟨by rfl, ?_⟩) hHeld ?_ ?_
              rotate_left
              ·rintro w' ⟨s0, s1, s2, s3, s4, s5, s6, s7, s8, s9, s10, s11, s12, s13, s14⟩
               go_simp
               with_reducible rfl
              rotate_left
              ·simp only [Act.put, List.setIfInBounds_toArray, List.set_cons_zero, List.set_cons_succ, i64_w, i32_w]
               rfl
              refine take_ (i := 27) (N := some 71) (v := ?_) (a' := ?_) #[true, true, true, true, true, true, true, true, true, true, true, true, true, true, true, true, true, true, true, true, true, true, false, true, false, true, false, true, false, false, false, false, false, false, false, false, false, false, false, false, false, false, false, false, false, false] rfl rfl (take_ofW HT_.out HW_.out (by kernel_rfl)) (fun _ _ _ h => h) (Or.inl ⟨by rfl, ?_⟩) hHeld ?_ ?_
              rotate_left
              ·rintro w' ⟨s0, s1, s2, s3, s4, s5, s6, s7, s8, s9, s10, s11, s12, s13, s14⟩
               go_simp
               with_reducible rfl
              rotate_left
              ·simp only [Act.put, List.setIfInBounds_toArray, List.set_cons_zero, List.set_cons_succ, i64_w, i32_w]
               rfl
              refine one_ (i := 22) (N := some 66) #[true, true, true, true, true, true, true, true, true, true, true, true, true, true, true, true, true, true, true, true, true, true, true, true, false, true, false, true, false, false, false, false, false, false, false, false, false, false, false, false, false, false, false, false, false, false] rfl rfl (one_of HT_.out (by kernel_rfl)) (by decide) (fun K hK => ?_)
              refine goes_ Try.func20 (by kernel_rfl) rfl #[.string (⟨#[121]⟩ : ByteArray)] (by rfl) rfl rfl (by (try simp only [List.map_toArray, List.map_cons, List.map_nil]); first | done | rfl | (simp only [List.length_drop, List.length_take]; rfl) | (simp only [wrap64_wl, wrap64_wr]; rfl)) ?_
              with_reducible refine (recensionlaw5_word.calls (⟨#[121]⟩ : ByteArray) t297 t298 t299 t300 t301 _ A62.out).mono ?_
              rintro e w78 ⟨rfl, hb⟩
              refine ⟨_, rfl, ?_⟩
              have n0_ := Aside0.mk (blk_below (g := gb275) (o := .cells #[.int .i64 t258, .string t259, .int .i64 t260, .int .i64 t261, .bool t262] 23 (0, 0)) (by (with_reducible repeat (first | refine blk_drewN ?_ _ | refine blk_drew ?_ | refine blk_alloc ?_ _)); exact BK275.out) hb)
              have n1_ := Aside0.mk (blk_below (g := gb276) (o := .cells #[.int .i64 t264, .string t265, .int .i64 t266, .int .i64 t267, .bool t268] 23 (0, 0)) (by (with_reducible repeat (first | refine blk_drewN ?_ _ | refine blk_drew ?_ | refine blk_alloc ?_ _)); exact BK276.out) hb)
              have n2_ := Aside0.mk (blk_below (g := gb277) (o := .cells #[.int .i64 x278000_18, .string x278001_18, .int .i64 x278002_18, .int .i64 x278003_18, .bool x278004_18] 23 (0, 0)) (by (with_reducible repeat (first | refine blk_drewN ?_ _ | refine blk_drew ?_ | refine blk_alloc ?_ _)); exact BK277.out) hb)
              have n3_ := Aside0.mk (below_step (by repeat (first | (with_reducible first | exact HB.out | apply below_alloc | apply pw_below_drewN | apply below_drew1 | refine below_set ?_ GE275.out | refine below_set ?_ GE276.out | refine below_set ?_ GE277.out) | exact HB.out)) hb)
              clear BK275
              clear BK276
              clear BK277
              clear HB
              have BK275 := n0_
              have BK276 := n1_
              have BK277 := n2_
              have HB := n3_
              clear n0_ n1_ n2_ n3_
              (try clear hb)
              (try clear hb2)
              (try clear hk)
              (try clear hi)
              refine hK.out _ _ ⟨(blk_cell BK277.out 0).trans rfl, (blk_cell BK277.out 1).trans rfl, (blk_cell BK277.out 2).trans rfl, (blk_cell BK277.out 3).trans rfl, (blk_cell BK277.out 4).trans rfl, (blk_cell BK275.out 0).trans rfl, (blk_cell BK275.out 1).trans rfl, (blk_cell BK275.out 2).trans rfl, (blk_cell BK275.out 3).trans rfl, (blk_cell BK275.out 4).trans rfl, (blk_cell BK276.out 0).trans rfl, (blk_cell BK276.out 1).trans rfl, (blk_cell BK276.out 2).trans rfl, (blk_cell BK276.out 3).trans rfl, (blk_cell BK276.out 4).trans rfl⟩ (fun hHeld => ?_)
              clear hK K
              refine norm_ (a' := ?_) ?_ ?_
              rotate_left
              ·show Act.put _ (some 66) _ = _
               simp only [Act.put, List.setIfInBounds_toArray, List.set_cons_zero, List.set_cons_succ, i64_w, i32_w]
               rfl
              refine one_ (i := 24) (N := some 68) #[true, true, true, true, true, true, true, true, true, true, true, true, true, true, true, true, true, true, true, true, true, true, true, true, true, true, false, true, false, false, false, false, false, false, false, false, false, false, false, false, false, false, false, false, false, false] rfl rfl (one_of HT_.out (by kernel_rfl)) (by decide) (fun K hK => ?_)
              refine goes_ Try.func17 (by kernel_rfl) rfl #[.agg #[.int .i64 x278000_18, .string x278001_18, .int .i64 x278002_18, .int .i64 x278003_18, .bool x278004_18], .agg #[.int .i64 t297, .string t298, .int .i64 t299, .int .i64 t300, .bool t301], .agg #[.int .i64 t264, .string t265, .int .i64 t266, .int .i64 t267, .bool t268]] (by rfl) rfl rfl (by (try simp only [List.map_toArray, List.map_cons, List.map_nil]); first | done | rfl | (simp only [List.length_drop, List.length_take]; rfl) | (simp only [wrap64_wl, wrap64_wr]; rfl)) ?_
              with_reducible refine (token_Space.calls kj18 x278000_18 x278001_18 x278002_18 x278003_18 x278004_18 t297 t298 t299 t300 t301 t264 t265 t266 t267 t268 t302 _ A63.out).mono ?_
              rintro e w79 ⟨rfl, hb⟩
              refine ⟨_, rfl, ?_⟩
              have n0_ := Aside0.mk (blk_below (g := gb275) (o := .cells #[.int .i64 t258, .string t259, .int .i64 t260, .int .i64 t261, .bool t262] 23 (0, 0)) (by (with_reducible repeat (first | refine blk_drewN ?_ _ | refine blk_drew ?_ | refine blk_alloc ?_ _)); exact BK275.out) hb)
              have n1_ := Aside0.mk (blk_below (g := gb276) (o := .cells #[.int .i64 t264, .string t265, .int .i64 t266, .int .i64 t267, .bool t268] 23 (0, 0)) (by (with_reducible repeat (first | refine blk_drewN ?_ _ | refine blk_drew ?_ | refine blk_alloc ?_ _)); exact BK276.out) hb)
              have n2_ := Aside0.mk (blk_below (g := gb277) (o := .cells #[.int .i64 x278000_18, .string x278001_18, .int .i64 x278002_18, .int .i64 x278003_18, .bool x278004_18] 23 (0, 0)) (by (with_reducible repeat (first | refine blk_drewN ?_ _ | refine blk_drew ?_ | refine blk_alloc ?_ _)); exact BK277.out) hb)
              have n3_ := Aside0.mk (below_step (by repeat (first | (with_reducible first | exact HB.out | apply below_alloc | apply pw_below_drewN | apply below_drew1 | refine below_set ?_ GE275.out | refine below_set ?_ GE276.out | refine below_set ?_ GE277.out) | exact HB.out)) hb)
              clear BK275
              clear BK276
              clear BK277
              clear HB
              have BK275 := n0_
              have BK276 := n1_
              have BK277 := n2_
              have HB := n3_
              clear n0_ n1_ n2_ n3_
              (try clear hb)
              (try clear hb2)
              (try clear hk)
              (try clear hi)
              refine hK.out _ _ ⟨(blk_cell BK277.out 0).trans rfl, (blk_cell BK277.out 1).trans rfl, (blk_cell BK277.out 2).trans rfl, (blk_cell BK277.out 3).trans rfl, (blk_cell BK277.out 4).trans rfl, (blk_cell BK275.out 0).trans rfl, (blk_cell BK275.out 1).trans rfl, (blk_cell BK275.out 2).trans rfl, (blk_cell BK275.out 3).trans rfl, (blk_cell BK275.out 4).trans rfl, (blk_cell BK276.out 0).trans rfl, (blk_cell BK276.out 1).trans rfl, (blk_cell BK276.out 2).trans rfl, (blk_cell BK276.out 3).trans rfl, (blk_cell BK276.out 4).trans rfl⟩ (fun hHeld => ?_)
              clear hK K
              refine norm_ (a' := ?_) ?_ ?_
              rotate_left
              ·show Act.put _ (some 68) _ = _
               simp only [Act.put, List.setIfInBounds_toArray, List.set_cons_zero, List.set_cons_succ, i64_w, i32_w]
               rfl
              refine one_ (i := 26) (N := some 70) #[true, true, true, true, true, true, true, true, true, true, true, true, true, true, true, true, true, true, true, true, true, true, true, true, true, true, true, true, false, false, false, false, false, false, false, false, false, false, false, false, false, false, false, false, false, false] rfl rfl (one_of HT_.out (by kernel_rfl)) (by decide) (fun K hK => ?_)
              refine goes_ Try.func20 (by kernel_rfl) rfl #[.string (⟨#[121]⟩ : ByteArray)] (by rfl) rfl rfl (by (try simp only [List.map_toArray, List.map_cons, List.map_nil]); first | done | rfl | (simp only [List.length_drop, List.length_take]; rfl) | (simp only [wrap64_wl, wrap64_wr]; rfl)) ?_
              with_reducible refine (recensionlaw5_word.calls (⟨#[121]⟩ : ByteArray) t303 t304 t305 t306 t307 _ A64.out).mono ?_
              rintro e w80 ⟨rfl, hb⟩
              refine ⟨_, rfl, ?_⟩
              have n0_ := Aside0.mk (blk_below (g := gb275) (o := .cells #[.int .i64 t258, .string t259, .int .i64 t260, .int .i64 t261, .bool t262] 23 (0, 0)) (by (with_reducible repeat (first | refine blk_drewN ?_ _ | refine blk_drew ?_ | refine blk_alloc ?_ _)); exact BK275.out) hb)
              have n1_ := Aside0.mk (blk_below (g := gb276) (o := .cells #[.int .i64 t264, .string t265, .int .i64 t266, .int .i64 t267, .bool t268] 23 (0, 0)) (by (with_reducible repeat (first | refine blk_drewN ?_ _ | refine blk_drew ?_ | refine blk_alloc ?_ _)); exact BK276.out) hb)
              have n2_ := Aside0.mk (blk_below (g := gb277) (o := .cells #[.int .i64 x278000_18, .string x278001_18, .int .i64 x278002_18, .int .i64 x278003_18, .bool x278004_18] 23 (0, 0)) (by (with_reducible repeat (first | refine blk_drewN ?_ _ | refine blk_drew ?_ | refine blk_alloc ?_ _)); exact BK277.out) hb)
              have n3_ := Aside0.mk (below_step (by repeat (first | (with_reducible first | exact HB.out | apply below_alloc | apply pw_below_drewN | apply below_drew1 | refine below_set ?_ GE275.out | refine below_set ?_ GE276.out | refine below_set ?_ GE277.out) | exact HB.out)) hb)
              clear BK275
              clear BK276
              clear BK277
              clear HB
              have BK275 := n0_
              have BK276 := n1_
              have BK277 := n2_
              have HB := n3_
              clear n0_ n1_ n2_ n3_
              (try clear hb)
              (try clear hb2)
              (try clear hk)
              (try clear hi)
              refine hK.out _ _ ⟨(blk_cell BK277.out 0).trans rfl, (blk_cell BK277.out 1).trans rfl, (blk_cell BK277.out 2).trans rfl, (blk_cell BK277.out 3).trans rfl, (blk_cell BK277.out 4).trans rfl, (blk_cell BK275.out 0).trans rfl, (blk_cell BK275.out 1).trans rfl, (blk_cell BK275.out 2).trans rfl, (blk_cell BK275.out 3).trans rfl, (blk_cell BK275.out 4).trans rfl, (blk_cell BK276.out 0).trans rfl, (blk_cell BK276.out 1).trans rfl, (blk_cell BK276.out 2).trans rfl, (blk_cell BK276.out 3).trans rfl, (blk_cell BK276.out 4).trans rfl⟩ (fun hHeld => ?_)
              clear hK K
              refine norm_ (a' := ?_) ?_ ?_
              rotate_left
              ·show Act.put _ (some 70) _ = _
               simp only [Act.put, List.setIfInBounds_toArray, List.set_cons_zero, List.set_cons_succ, i64_w, i32_w]
               rfl
              refine one_ (i := 28) (N := some 72) #[true, true, true, true, true, true, true, true, true, true, true, true, true, true, true, true, true, true, true, true, true, true, true, true, true, true, true, true, true, false, false, false, false, false, false, false, false, false, false, false, false, false, false, false, false, false] rfl rfl (one_of HT_.out (by kernel_rfl)) (by decide) (fun K hK => ?_)
              refine goes_ Try.func18 (by kernel_rfl) rfl #[.agg #[.int .i64 x278000_18, .string x278001_18, .int .i64 x278002_18, .int .i64 x278003_18, .bool x278004_18], .agg #[.int .i64 t303, .string t304, .int .i64 t305, .int .i64 t306, .bool t307], .agg #[.int .i64 t264, .string t265, .int .i64 t266, .int .i64 t267, .bool t268]] (by rfl) rfl rfl (by (try simp only [List.map_toArray, List.map_cons, List.map_nil]); first | done | rfl | (simp only [List.length_drop, List.length_take]; rfl) | (simp only [wrap64_wl, wrap64_wr]; rfl)) ?_
              with_reducible refine (recensionref1_Space.calls kj18 x278000_18 x278001_18 x278002_18 x278003_18 x278004_18 t303 t304 t305 t306 t307 t264 t265 t266 t267 t268 t308 _ A65.out).mono ?_
              rintro e w81 ⟨rfl, hb⟩
              refine ⟨_, rfl, ?_⟩
              have n0_ := Aside0.mk (blk_below (g := gb275) (o := .cells #[.int .i64 t258, .string t259, .int .i64 t260, .int .i64 t261, .bool t262] 23 (0, 0)) (by (with_reducible repeat (first | refine blk_drewN ?_ _ | refine blk_drew ?_ | refine blk_alloc ?_ _)); exact BK275.out) hb)
              have n1_ := Aside0.mk (blk_below (g := gb276) (o := .cells #[.int .i64 t264, .string t265, .int .i64 t266, .int .i64 t267, .bool t268] 23 (0, 0)) (by (with_reducible repeat (first | refine blk_drewN ?_ _ | refine blk_drew ?_ | refine blk_alloc ?_ _)); exact BK276.out) hb)
              have n2_ := Aside0.mk (blk_below (g := gb277) (o := .cells #[.int .i64 x278000_18, .string x278001_18, .int .i64 x278002_18, .int .i64 x278003_18, .bool x278004_18] 23 (0, 0)) (by (with_reducible repeat (first | refine blk_drewN ?_ _ | refine blk_drew ?_ | refine blk_alloc ?_ _)); exact BK277.out) hb)
              have n3_ := Aside0.mk (below_step (by repeat (first | (with_reducible first | exact HB.out | apply below_alloc | apply pw_below_drewN | apply below_drew1 | refine below_set ?_ GE275.out | refine below_set ?_ GE276.out | refine below_set ?_ GE277.out) | exact HB.out)) hb)
              clear BK275
              clear BK276
              clear BK277
              clear HB
              have BK275 := n0_
              have BK276 := n1_
              have BK277 := n2_
              have HB := n3_
              clear n0_ n1_ n2_ n3_
              (try clear hb)
              (try clear hb2)
              (try clear hk)
              (try clear hi)
              refine hK.out _ _ ⟨(blk_cell BK277.out 0).trans rfl, (blk_cell BK277.out 1).trans rfl, (blk_cell BK277.out 2).trans rfl, (blk_cell BK277.out 3).trans rfl, (blk_cell BK277.out 4).trans rfl, (blk_cell BK275.out 0).trans rfl, (blk_cell BK275.out 1).trans rfl, (blk_cell BK275.out 2).trans rfl, (blk_cell BK275.out 3).trans rfl, (blk_cell BK275.out 4).trans rfl, (blk_cell BK276.out 0).trans rfl, (blk_cell BK276.out 1).trans rfl, (blk_cell BK276.out 2).trans rfl, (blk_cell BK276.out 3).trans rfl, (blk_cell BK276.out 4).trans rfl⟩ (fun hHeld => ?_)
              clear hK K
              refine norm_ (a' := ?_) ?_ ?_
              rotate_left
              ·show Act.put _ (some 72) _ = _
               simp only [Act.put, List.setIfInBounds_toArray, List.set_cons_zero, List.set_cons_succ, i64_w, i32_w]
               rfl
              refine pure_ (i := 29) (N := some 73) (v := ?_) (a' := ?_) #[true, true, true, true, true, true, true, true, true, true, true, true, true, true, true, true, true, true, true, true, true, true, true, true, true, true, true, true, true, true, false, false, false, false, false, false, false, false, false, false, false, false, false, false, false, false] rfl rfl (any_of HT_.out (by kernel_rfl)) (fun _ _ _ h => h) (Or.inl ⟨by rfl, ?_⟩) ?_ ?_
              rotate_left
              ·intro w'
               go_simp
               with_reducible rfl
              rotate_left
              ·simp only [Act.put, List.setIfInBounds_toArray, List.set_cons_zero, List.set_cons_succ, i64_w, i32_w]
               rfl
              refine pure_ (i := 30) (N := some 74) (v := ?_) (a' := ?_) #[true, true, true, true, true, true, true, true, true, true, true, true, true, true, true, true, true, true, true, true, true, true, true, true, true, true, true, true, true, true, true, false, false, false, false, false, false, false, false, false, false, false, false, false, false, false] rfl rfl (any_of HT_.out (by kernel_rfl)) (fun _ _ _ h => h) (Or.inl ⟨by rfl, ?_⟩) ?_ ?_
              rotate_left
              ·intro w'
               go_simp
               with_reducible rfl
              rotate_left
              ·simp only [Act.put, List.setIfInBounds_toArray, List.set_cons_zero, List.set_cons_succ, i64_w, i32_w]
               rfl
              refine pure_ (i := 31) (N := some 75) (v := ?_) (a' := ?_) #[true, true, true, true, true, true, true, true, true, true, true, true, true, true, true, true, true, true, true, true, true, true, true, true, true, true, true, true, true, true, true, true, false, false, false, false, false, false, false, false, false, false, false, false, false, false] rfl rfl (any_of HT_.out (by kernel_rfl)) (fun _ _ _ h => h) (Or.inl ⟨by rfl, ?_⟩) ?_ ?_
              rotate_left
              ·intro w'
               go_simp
               with_reducible rfl
              rotate_left
              ·simp only [Act.put, List.setIfInBounds_toArray, List.set_cons_zero, List.set_cons_succ, i64_w, i32_w]
               rfl
              refine pure_ (i := 32) (N := some 76) (v := ?_) (a' := ?_) #[true, true, true, true, true, true, true, true, true, true, true, true, true, true, true, true, true, true, true, true, true, true, true, true, true, true, true, true, true, true, true, true, true, false, false, false, false, false, false, false, false, false, false, false, false, false] rfl rfl (any_of HT_.out (by kernel_rfl)) (fun _ _ _ h => h) (Or.inl ⟨by rfl, ?_⟩) ?_ ?_
              rotate_left
              ·intro w'
               go_simp
               with_reducible rfl
              rotate_left
              ·simp only [Act.put, List.setIfInBounds_toArray, List.set_cons_zero, List.set_cons_succ, i64_w, i32_w]
               rfl
              refine take_ (i := 33) (N := some 77) (v := ?_) (a' := ?_) #[true, true, true, true, true, true, true, true, true, true, true, true, true, true, true, true, true, true, true, true, true, true, true, true, true, true, true, true, true, true, true, true, true, true, false, false, false, false, false, false, false, false, false, false, false, false] rfl rfl (take_ofW HT_.out HW_.out (by kernel_rfl)) (fun _ _ _ h => h) (Or.inl ⟨by rfl, ?_⟩) hHeld ?_ ?_
              rotate_left
              ·rintro w' ⟨s0, s1, s2, s3, s4, s5, s6, s7, s8, s9, s10, s11, s12, s13, s14⟩
               go_simp
               with_reducible rfl
              rotate_left
              ·simp only [Act.put, List.setIfInBounds_toArray, List.set_cons_zero, List.set_cons_succ, i64_w, i32_w]
               rfl
              refine one_ (i := 34) (N := some 78) #[true, true, true, true, true, true, true, true, true, true, true, true, true, true, true, true, true, true, true, true, true, true, true, true, true, true, true, true, true, true, true, true, true, true, true, false, false, false, false, false, false, false, false, false, false, false] rfl rfl (one_of HT_.out (by kernel_rfl)) (by decide) (fun K hK => ?_)
              refine goes_ Try.func9 (by kernel_rfl) rfl #[.string t259] (by rfl) rfl rfl (by (try simp only [List.map_toArray, List.map_cons, List.map_nil]); first | done | rfl | (simp only [List.length_drop, List.length_take]; rfl) | (simp only [wrap64_wl, wrap64_wr]; rfl)) ?_
              with_reducible refine (token_Op.calls kj18 t259 true _ A67.out).mono ?_
              rintro e w82 ⟨rfl, hb⟩
              refine ⟨_, rfl, ?_⟩
              have n0_ := Aside0.mk (blk_below (g := gb275) (o := .cells #[.int .i64 t258, .string t259, .int .i64 t260, .int .i64 t261, .bool t262] 23 (0, 0)) (by (with_reducible repeat (first | refine blk_drewN ?_ _ | refine blk_drew ?_ | refine blk_alloc ?_ _)); exact BK275.out) hb)
              have n1_ := Aside0.mk (blk_below (g := gb276) (o := .cells #[.int .i64 t264, .string t265, .int .i64 t266, .int .i64 t267, .bool t268] 23 (0, 0)) (by (with_reducible repeat (first | refine blk_drewN ?_ _ | refine blk_drew ?_ | refine blk_alloc ?_ _)); exact BK276.out) hb)
              have n2_ := Aside0.mk (blk_below (g := gb277) (o := .cells #[.int .i64 x278000_18, .string x278001_18, .int .i64 x278002_18, .int .i64 x278003_18, .bool x278004_18] 23 (0, 0)) (by (with_reducible repeat (first | refine blk_drewN ?_ _ | refine blk_drew ?_ | refine blk_alloc ?_ _)); exact BK277.out) hb)
              have n3_ := Aside0.mk (below_step (by repeat (first | (with_reducible first | exact HB.out | apply below_alloc | apply pw_below_drewN | apply below_drew1 | refine below_set ?_ GE275.out | refine below_set ?_ GE276.out | refine below_set ?_ GE277.out) | exact HB.out)) hb)
              clear BK275
              clear BK276
              clear BK277
              clear HB
              have BK275 := n0_
              have BK276 := n1_
              have BK277 := n2_
              have HB := n3_
              clear n0_ n1_ n2_ n3_
              (try clear hb)
              (try clear hb2)
              (try clear hk)
              (try clear hi)
              refine hK.out _ _ ⟨(blk_cell BK277.out 0).trans rfl, (blk_cell BK277.out 1).trans rfl, (blk_cell BK277.out 2).trans rfl, (blk_cell BK277.out 3).trans rfl, (blk_cell BK277.out 4).trans rfl, (blk_cell BK275.out 0).trans rfl, (blk_cell BK275.out 1).trans rfl, (blk_cell BK275.out 2).trans rfl, (blk_cell BK275.out 3).trans rfl, (blk_cell BK275.out 4).trans rfl, (blk_cell BK276.out 0).trans rfl, (blk_cell BK276.out 1).trans rfl, (blk_cell BK276.out 2).trans rfl, (blk_cell BK276.out 3).trans rfl, (blk_cell BK276.out 4).trans rfl⟩ (fun hHeld => ?_)
              clear hK K
              refine norm_ (a' := ?_) ?_ ?_
              rotate_left
              ·show Act.put _ (some 78) _ = _
               simp only [Act.put, List.setIfInBounds_toArray, List.set_cons_zero, List.set_cons_succ, i64_w, i32_w]
               rfl
              refine pure_ (i := 35) (N := some 79) (v := ?_) (a' := ?_) #[true, true, true, true, true, true, true, true, true, true, true, true, true, true, true, true, true, true, true, true, true, true, true, true, true, true, true, true, true, true, true, true, true, true, true, true, false, false, false, false, false, false, false, false, false, false] rfl rfl (any_of HT_.out (by kernel_rfl)) (fun _ _ _ h => h) (Or.inl ⟨by rfl, ?_⟩) ?_ ?_
              rotate_left
              ·intro w'
               go_simp
               with_reducible rfl
              rotate_left
              ·simp only [Act.put, List.setIfInBounds_toArray, List.set_cons_zero, List.set_cons_succ, i64_w, i32_w]
               rfl
              refine pure_ (i := 36) (N := some 80) (v := ?_) (a' := ?_) #[true, true, true, true, true, true, true, true, true, true, true, true, true, true, true, true, true, true, true, true, true, true, true, true, true, true, true, true, true, true, true, true, true, true, true, true, true, false, false, false, false, false, false, false, false, false] rfl rfl (any_of HT_.out (by kernel_rfl)) (fun _ _ _ h => h) (Or.inl ⟨by rfl, ?_⟩) ?_ ?_
              rotate_left
              ·intro w'
               go_simp
               with_reducible rfl
              rotate_left
              ·simp only [Act.put, List.setIfInBounds_toArray, List.set_cons_zero, List.set_cons_succ, i64_w, i32_w]
               rfl
              refine pure_ (i := 37) (N := some 81) (v := ?_) (a' := ?_) #[true, true, true, true, true, true, true, true, true, true, true, true, true, true, true, true, true, true, true, true, true, true, true, true, true, true, true, true, true, true, true, true, true, true, true, true, true, true, false, false, false, false, false, false, false, false] rfl rfl (any_of HT_.out (by kernel_rfl)) (fun _ _ _ h => h) (Or.inl ⟨by rfl, ?_⟩) ?_ ?_
              rotate_left
              ·intro w'
               go_simp
               with_reducible rfl
              rotate_left
              ·simp only [Act.put, List.setIfInBounds_toArray, List.set_cons_zero, List.set_cons_succ, i64_w, i32_w]
               rfl
              refine pure_ (i := 40) (N := some 84) (v := ?_) (a' := ?_) #[true, true, true, true, true, true, true, true, true, true, true, true, true, true, true, true, true, true, true, true, true, true, true, true, true, true, true, true, true, true, true, true, true, true, true, true, true, true, false, false, true, false, false, false, false, false] rfl rfl (any_of HT_.out (by kernel_rfl)) (fun _ _ _ h => h) (Or.inl ⟨by rfl, ?_⟩) ?_ ?_
              rotate_left
              ·intro w'
               go_simp
               with_reducible rfl
              rotate_left
              ·simp only [Act.put, List.setIfInBounds_toArray, List.set_cons_zero, List.set_cons_succ, i64_w, i32_w]
               rfl
              refine take_ (i := 38) (N := some 82) (v := ?_) (a' := ?_) #[true, true, true, true, true, true, true, true, true, true, true, true, true, true, true, true, true, true, true, true, true, true, true, true, true, true, true, true, true, true, true, true, true, true, true, true, true, true, true, false, true, false, false, false, false, false] rfl rfl (take_ofW HT_.out HW_.out (by kernel_rfl)) (fun _ _ _ h => h) (Or.inl ⟨by rfl, ?_⟩) hHeld ?_ ?_
              rotate_left
              ·rintro w' ⟨s0, s1, s2, s3, s4, s5, s6, s7, s8, s9, s10, s11, s12, s13, s14⟩
               go_simp
               with_reducible rfl
              rotate_left
              ·simp only [Act.put, List.setIfInBounds_toArray, List.set_cons_zero, List.set_cons_succ, i64_w, i32_w]
               rfl
              refine take_ (i := 41) (N := some 85) (v := ?_) (a' := ?_) #[true, true, true, true, true, true, true, true, true, true, true, true, true, true, true, true, true, true, true, true, true, true, true, true, true, true, true, true, true, true, true, true, true, true, true, true, true, true, true, false, true, true, false, false, false, false] rfl rfl (take_ofW HT_.out HW_.out (by kernel_rfl)) (fun _ _ _ h => h) (Or.inl ⟨by rfl, ?_⟩) hHeld ?_ ?_
              rotate_left
              ·rintro w' ⟨s0, s1, s2, s3, s4, s5, s6, s7, s8, s9, s10, s11, s12, s13, s14⟩
               go_simp
               with_reducible rfl
              rotate_left
              ·simp only [Act.put, List.setIfInBounds_toArray, List.set_cons_zero, List.set_cons_succ, i64_w, i32_w]
               rfl
              refine one_ (i := 39) (N := some 83) #[true, true, true, true, true, true, true, true, true, true, true, true, true, true, true, true, true, true, true, true, true, true, true, true, true, true, true, true, true, true, true, true, true, true, true, true, true, true, true, true, true, true, false, false, false, false] rfl rfl (one_of HT_.out (by kernel_rfl)) (by decide) (fun K hK => ?_)
              refine goes_ Try.func11 (by kernel_rfl) rfl #[.string t259] (by rfl) rfl rfl (by (try simp only [List.map_toArray, List.map_cons, List.map_nil]); first | done | rfl | (simp only [List.length_drop, List.length_take]; rfl) | (simp only [wrap64_wl, wrap64_wr]; rfl)) ?_
              with_reducible refine (token_Rank.calls kj18 t259 t310 _ A69.out).mono ?_
              rintro e w' ⟨rfl, ⟨nd, rfl⟩⟩
              refine ⟨_, rfl, ?_⟩
              refine hK.out _ _ ⟨(blk_cell BK277.out 0).trans rfl, (blk_cell BK277.out 1).trans rfl, (blk_cell BK277.out 2).trans rfl, (blk_cell BK277.out 3).trans rfl, (blk_cell BK277.out 4).trans rfl, (blk_cell BK275.out 0).trans rfl, (blk_cell BK275.out 1).trans rfl, (blk_cell BK275.out 2).trans rfl, (blk_cell BK275.out 3).trans rfl, (blk_cell BK275.out 4).trans rfl, (blk_cell BK276.out 0).trans rfl, (blk_cell BK276.out 1).trans rfl, (blk_cell BK276.out 2).trans rfl, (blk_cell BK276.out 3).trans rfl, (blk_cell BK276.out 4).trans rfl⟩ (fun hHeld => ?_)
              clear hK K
              refine norm_ (a' := ?_) ?_ ?_
              rotate_left
              ·show Act.put _ (some 83) _ = _
               simp only [Act.put, List.setIfInBounds_toArray, List.set_cons_zero, List.set_cons_succ, i64_w, i32_w]
               rfl
              refine one_ (i := 42) (N := some 86) #[true, true, true, true, true, true, true, true, true, true, true, true, true, true, true, true, true, true, true, true, true, true, true, true, true, true, true, true, true, true, true, true, true, true, true, true, true, true, true, true, true, true, true, false, false, false] rfl rfl (one_of HT_.out (by kernel_rfl)) (by decide) (fun K hK => ?_)
              refine goes_ Try.func12 (by kernel_rfl) rfl #[.string t259] (by rfl) rfl rfl (by (try simp only [List.map_toArray, List.map_cons, List.map_nil]); first | done | rfl | (simp only [List.length_drop, List.length_take]; rfl) | (simp only [wrap64_wl, wrap64_wr]; rfl)) ?_
              with_reducible refine (recensionref1_Rank.calls kj18 t259 t311 _ A70.out).mono ?_
              rintro e w83 ⟨rfl, hb⟩
              refine ⟨_, rfl, ?_⟩
              have n0_ := Aside0.mk (blk_below (g := gb275) (o := .cells #[.int .i64 t258, .string t259, .int .i64 t260, .int .i64 t261, .bool t262] 23 (0, 0)) (by (with_reducible repeat (first | refine blk_drewN ?_ _ | refine blk_drew ?_ | refine blk_alloc ?_ _)); exact BK275.out) hb)
              have n1_ := Aside0.mk (blk_below (g := gb276) (o := .cells #[.int .i64 t264, .string t265, .int .i64 t266, .int .i64 t267, .bool t268] 23 (0, 0)) (by (with_reducible repeat (first | refine blk_drewN ?_ _ | refine blk_drew ?_ | refine blk_alloc ?_ _)); exact BK276.out) hb)
              have n2_ := Aside0.mk (blk_below (g := gb277) (o := .cells #[.int .i64 x278000_18, .string x278001_18, .int .i64 x278002_18, .int .i64 x278003_18, .bool x278004_18] 23 (0, 0)) (by (with_reducible repeat (first | refine blk_drewN ?_ _ | refine blk_drew ?_ | refine blk_alloc ?_ _)); exact BK277.out) hb)
              have n3_ := Aside0.mk (below_step (by repeat (first | (with_reducible first | exact HB.out | apply below_alloc | apply pw_below_drewN | apply below_drew1 | refine below_set ?_ GE275.out | refine below_set ?_ GE276.out | refine below_set ?_ GE277.out) | exact HB.out)) hb)
              clear BK275
              clear BK276
              clear BK277
              clear HB
              have BK275 := n0_
              have BK276 := n1_
              have BK277 := n2_
              have HB := n3_
              clear n0_ n1_ n2_ n3_
              (try clear hb)
              (try clear hb2)
              (try clear hk)
              (try clear hi)
              refine hK.out _ _ ⟨(blk_cell BK277.out 0).trans rfl, (blk_cell BK277.out 1).trans rfl, (blk_cell BK277.out 2).trans rfl, (blk_cell BK277.out 3).trans rfl, (blk_cell BK277.out 4).trans rfl, (blk_cell BK275.out 0).trans rfl, (blk_cell BK275.out 1).trans rfl, (blk_cell BK275.out 2).trans rfl, (blk_cell BK275.out 3).trans rfl, (blk_cell BK275.out 4).trans rfl, (blk_cell BK276.out 0).trans rfl, (blk_cell BK276.out 1).trans rfl, (blk_cell BK276.out 2).trans rfl, (blk_cell BK276.out 3).trans rfl, (blk_cell BK276.out 4).trans rfl⟩ (fun hHeld => ?_)
              clear hK K
              refine norm_ (a' := ?_) ?_ ?_
              rotate_left
              ·show Act.put _ (some 86) _ = _
               simp only [Act.put, List.setIfInBounds_toArray, List.set_cons_zero, List.set_cons_succ, i64_w, i32_w]
               rfl
              refine pure_ (i := 43) (N := some 87) (v := ?_) (a' := ?_) #[true, true, true, true, true, true, true, true, true, true, true, true, true, true, true, true, true, true, true, true, true, true, true, true, true, true, true, true, true, true, true, true, true, true, true, true, true, true, true, true, true, true, true, true, false, false] rfl rfl (any_of HT_.out (by kernel_rfl)) (fun _ _ _ h => h) (Or.inl ⟨by rfl, ?_⟩) ?_ ?_
              rotate_left
              ·intro w'
               go_simp
               with_reducible rfl
              rotate_left
              ·simp only [Act.put, List.setIfInBounds_toArray, List.set_cons_zero, List.set_cons_succ, i64_w, i32_w]
               rfl
              refine pure_ (i := 44) (N := some 88) (v := ?_) (a' := ?_) #[true, true, true, true, true, true, true, true, true, true, true, true, true, true, true, true, true, true, true, true, true, true, true, true, true, true, true, true, true, true, true, true, true, true, true, true, true, true, true, true, true, true, true, true, true, false] rfl rfl (any_of HT_.out (by kernel_rfl)) (fun _ _ _ h => h) (Or.inl ⟨by rfl, ?_⟩) ?_ ?_
              rotate_left
              ·intro w'
               go_simp
               with_reducible rfl
              rotate_left
              ·simp only [Act.put, List.setIfInBounds_toArray, List.set_cons_zero, List.set_cons_succ, i64_w, i32_w]
               rfl
              refine pure_ (i := 45) (N := some 8) (v := ?_) (a' := ?_) #[true, true, true, true, true, true, true, true, true, true, true, true, true, true, true, true, true, true, true, true, true, true, true, true, true, true, true, true, true, true, true, true, true, true, true, true, true, true, true, true, true, true, true, true, true, true] rfl rfl (any_of HT_.out (by kernel_rfl)) (fun _ _ _ h => h) (Or.inl ⟨by rfl, ?_⟩) ?_ ?_
              rotate_left
              ·intro w'
               go_simp
               with_reducible rfl
              rotate_left
              ·simp only [Act.put, List.setIfInBounds_toArray, List.set_cons_zero, List.set_cons_succ, i64_w, i32_w]
               rfl
              refine done_ (done_of HT_.out (by kernel_rfl)) ?_
              try go_wp2
              go_ret
              exact ⟨by first | rfl | (simp [errW_none, errW_some] <;> rfl) | (simp only [← hji7, ← hji11, ← hji15]; first | rfl | (simp [errW_none, errW_some] <;> rfl)) | (simp [*, errW_none, errW_some] <;> rfl), by repeat (first | (with_reducible first | exact HB.out | apply below_alloc | apply pw_below_drewN | apply below_drew1 | refine below_set ?_ GE275.out | refine below_set ?_ GE276.out | refine below_set ?_ GE277.out) | exact HB.out)⟩
             ·replace c68 := Bool.eq_false_iff.mpr c68
              subst c68
              have H1 : (some false) = some r := by rw [if_neg (show ¬ (false = true) by decide)] at H; exact H
              clear H
              have H := H1
              clear H1
              exact absurd (H.trans (congrArg some hrt.out)) (by simp)
            ·rw [if_neg c66] at H
             have c66b0 : (t302 == t308) = false := by simpa using c66
             (try (have c66b1 : decide (t302 = t308) = false := by simpa using c66))
             (try (have c66b2 : (t302 == t308) = false := by simpa using c66))
             (try (have c66b3 : ¬ (t302 = t308) := by simpa using c66))
             clear c66
             exact absurd (H.trans (congrArg some hrt.out)) (by simp)
           ·rw [if_neg c61] at H
            have c61b0 : (t290 == t296) = false := by simpa using c61
            (try (have c61b1 : decide (t290 = t296) = false := by simpa using c61))
            (try (have c61b2 : (t290 == t296) = false := by simpa using c61))
            (try (have c61b3 : ¬ (t290 = t296) := by simpa using c61))
            clear c61
            exact absurd (H.trans (congrArg some hrt.out)) (by simp)
          ·rw [if_neg c56] at H
           have c56b0 : (t283 == t284) = false := by simpa using c56
           (try (have c56b1 : decide (t283 = t284) = false := by simpa using c56))
           (try (have c56b2 : (t283 == t284) = false := by simpa using c56))
           (try (have c56b3 : ¬ (t283 = t284) := by simpa using c56))
           clear c56
           exact absurd (H.trans (congrArg some hrt.out)) (by simp)
       ·rw [if_neg c17] at H
        exact absurd H (by simp)
      ·rw [if_neg c16] at H
       exact absurd H (by simp)
     ·rw [if_neg c13] at H
      exact absurd H (by simp)
    ·rw [if_neg c12] at H
     exact absurd H (by simp)
   ·rw [if_neg c9] at H
    exact absurd H (by simp)
  ·rw [if_neg c8] at H
   exact absurd H (by simp)
 ·replace c6 := Bool.eq_false_iff.mpr c6
  subst c6
  have H1 : (some false) = some r := by rw [if_neg (show ¬ (false = true) by decide)] at H; exact H
  clear H
  have H := H1
  clear H1
  exact absurd (H.trans (congrArg some hrt.out)) (by simp)

/-- THE ONE PURE STATEMENT of recensionlaw5_TokenOps: yours. -/
def recensionlaw5_TokenOps.Pure : Prop := ∀ (a0 : Int) (a1 : Int) (a2 : Int) (a3 : Bool), (Lit.int .i64 a0).wf = true → (Lit.int .i64 a1).wf = true → (Lit.int .i64 a2).wf = true → ∃ k, recensionlaw5_TokenOps.f k a0 a1 a2 a3 = some true
theorem recensionlaw5_TokenOps.walk (P : recensionlaw5_TokenOps.Pure) (a0 : Int) (a1 : Int) (a2 : Int) (a3 : Bool) (w : World) (w0 : (Lit.int .i64 a0).wf = true) (w1 : (Lit.int .i64 a1).wf = true) (w2 : (Lit.int .i64 a2).wf = true) :
  Calls Try.prog 4 #[.int .i64 a0, .int .i64 a1, .int .i64 a2, .bool a3] w fun e w' => e = .returned (.bool true) ∧ Below w.heap.size w w' := by
 obtain ⟨k, h⟩ := P a0 a1 a2 a3 w0 w1 w2
 refine (recensionlaw5_TokenOps.calls k a0 a1 a2 a3 true w ⟨rfl⟩ h).mono ?_
 rintro e w' ⟨rfl, hd⟩
 exact ⟨rfl, hd⟩

end Go.Proofs.Ytghcagmnhaphbaa.PTokenOps
