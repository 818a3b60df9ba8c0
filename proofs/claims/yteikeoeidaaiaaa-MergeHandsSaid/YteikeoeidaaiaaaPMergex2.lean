-- Written by myprint.py (the prover's own turn of the printer); not trusted: Lean checks it.
import Derived.Test.YteikeoeidaaiaaaPMergex0
import Derived.Test.YteikeoeidaaiaaaPMergex1
namespace Go.Proofs.Yteikeoeidaaiaaa.PMerge
open Go.RowKit Go.Proofs.YteikeoeidaaiaaaW.PrintWords Go.Proofs.YteikeoeidaaiaaaW.PrintLast Go.Proofs.YteikeoeidaaiaaaW.PrintMore
attribute [local go_sem] str_leq op_leq op_gtr op_geq max2_int min2_int max_two min_two max_three min_three max_four min_four   -- for this text's walks alone
set_option linter.unusedVariables false
set_option linter.unusedSimpArgs false

/-! ### recensionlaw9_begun: function 7 -/
theorem infoE : (Try.prog.info? 29).map (fun i => (i.zero, i.size, i.bytes)) = some (some (.agg #[(.int .i64 0), (.int .i64 0), (.string ⟨#[]⟩)]), 3, 32) := by kernel_rfl
/-! ### the order of edits -/
def cmpI (a b : Int) : Int := if a < b then -1 else if b < a then 1 else 0
def cmpS (a b : ByteArray) : Int := if Op.bytesLess a.toList b.toList = true then -1 else if Op.bytesLess b.toList a.toList = true then 1 else 0
set_option maxHeartbeats 1000000 in
set_option maxRecDepth 100000 in
theorem cmp_int (a b : Int) (w : World) : Calls Try.prog 48 #[.int .i64 a, .int .i64 b] w fun e w' => e = .returned (.int .i64 (cmpI a b)) ∧ w = w' := by
 go_enter Try.func48, Try.ntmps48
 go_wp2
 all_goals go_ret
 all_goals refine ⟨?_, rfl⟩
 all_goals first
  | (rw [show cmpI a b = -1 from by unfold cmpI; rw [if_pos (by omega)]]; rfl)
  | (rw [show cmpI a b = 1 from by unfold cmpI; rw [if_neg (by omega), if_pos (by omega)]]; rfl)
  | (rw [show cmpI a b = 0 from by unfold cmpI; rw [if_neg (by omega), if_neg (by omega)]]; rfl)
set_option maxHeartbeats 1000000 in
set_option maxRecDepth 100000 in
theorem cmp_str (a b : ByteArray) (w : World) : Calls Try.prog 49 #[.string a, .string b] w fun e w' => e = .returned (.int .i64 (cmpS a b)) ∧ w = w' := by
 go_enter Try.func49, Try.ntmps49
 go_wp2
 all_goals go_ret
 all_goals refine ⟨?_, rfl⟩
 all_goals first
  | (rw [show cmpS a b = -1 from by unfold cmpS; simp_all]; rfl)
  | (rw [show cmpS a b = 1 from by unfold cmpS; simp_all]; rfl)
  | (rw [show cmpS a b = 0 from by unfold cmpS; simp_all]; rfl)
def orI : List Int → Int
 | [] => 0
 | x :: l => if x = 0 then orI l else x
set_option maxHeartbeats 1000000 in
set_option maxRecDepth 100000 in
theorem or_int (A : Option Addr) (c : Nat) (xs : List Int) (w : World) (hr : Kd.C (Kd.int .i64) w A xs.length xs) (hl : xs.length ≤ 1000) : Calls Try.prog 47 #[.slice A xs.length c] w fun e w' => e = .returned (.int .i64 (orI xs)) ∧ w = w' := by
 have HR := Aside0.mk hr
 clear hr
 go_enter Try.func47, Try.ntmps47
 go_wp2
 go_loopw [8] (fun v wr => ∃ i : Int, v = .int .i64 i ∧ 0 ≤ i ∧ i ≤ xs.length ∧ Aside0 (orI xs = orI (xs.drop i.toNat)) ∧ w = wr) (fun v _ => xs.length - (intOf v).toNat)
 case atStart => exact ⟨0, rfl, Int.le_refl _, by omega, ⟨rfl⟩, rfl⟩
 case round =>
  obtain ⟨i, rfl, i0, il, HO, rfl⟩ := hrel
  by_cases hlt : i < (xs.length : Int)
  ·have b1 : decide (i < (xs.length : Int)) = true := decide_eq_true hlt
   have hn : i.toNat < xs.length := by omega
   have e12 : IntKind.i64.wrap (i + 1) = i + 1 := IntWalk.i64_in _ (by omega)
   obtain ⟨ad, rfl, hx⟩ := Kd.at_int HR.out i i0 hlt
   have hd : xs.drop i.toNat = rd xs i :: xs.drop (i.toNat + 1) := by
    rw [List.drop_eq_getElem_cons hn]
    congr 1
    unfold rd
    simp [hn]
   have HD := Aside0.mk hd
   have p1 := eq_true i0
   have q1 := eq_true hlt
   clear hd hlt
   by_cases hz : rd xs i = 0
   ·have b2 : (rd xs i == 0) = true := beq_iff_eq.mpr hz
    have HZ := Aside0.mk hz
    clear hz
    go_wp2_with fail
    go_roundw
    case rel => exact ⟨i + 1, rfl, by omega, by omega, ⟨by rw [HO.out, HD.out, show (i + 1).toNat = i.toNat + 1 by omega]; simp [orI, HZ.out]⟩, by first | rfl | trivial⟩
    case measure => simp [intOf]; omega
   ·have b2 : (rd xs i == 0) = false := by simpa using hz
    have HZ := Aside0.mk hz
    clear hz
    go_wp2_with fail
    go_ret
    exact ⟨by rw [HO.out, HD.out]; simp [orI, HZ.out], rfl⟩
  ·have b1 : decide (i < (xs.length : Int)) = false := decide_eq_false hlt
   have hq : xs.drop i.toNat = [] := List.drop_eq_nil_of_le (by omega)
   have HQ := Aside0.mk hq
   clear hlt hq
   go_wp2_with fail
   go_ret
   exact ⟨by rw [HO.out, HQ.out]; rfl, rfl⟩
/-! ### calls through the interface: which function it is -/
theorem recv_val (gq : Nat) (w : World) (s : String) : (receiverAt 48 (Place.val (.pointer (some ⟨gq, 0, none⟩))) false (some s)).run Try.prog w = ((loadVar 25 ⟨gq, 0, none⟩).run Try.prog w) := by kernel_rfl
theorem recv_ptr (gq : Nat) (w : World) (s : String) : (receiverAt 48 (Place.val (.pointer (some ⟨gq, 0, none⟩))) true (some s)).run Try.prog w = .ok (.pointer (some ⟨gq, 0, none⟩)) w := by kernel_rfl
theorem m_Less : Array.find? (fun x => x.name == "Less") Try.t48.methods = some ⟨ "Less", 60, #[], some (44, false)⟩ := by kernel_rfl
theorem m_Swap : Array.find? (fun x => x.name == "Swap") Try.t48.methods = some ⟨ "Swap", 56, #[], some (45, false)⟩ := by kernel_rfl
theorem m_Len : Array.find? (fun x => x.name == "Len") Try.t48.methods = some ⟨ "Len", 35, #[], some (43, false)⟩ := by kernel_rfl
theorem m_Push : Array.find? (fun x => x.name == "Push") Try.t48.methods = some ⟨ "Push", 54, #[], some (53, true)⟩ := by kernel_rfl
theorem m_Pop : Array.find? (fun x => x.name == "Pop") Try.t48.methods = some ⟨ "Pop", 58, #[], some (52, true)⟩ := by kernel_rfl
theorem mLess (gq : Nat) (w : World) (A : Option Addr) (n c : Nat) (h : w.cell? ⟨gq, 0, none⟩ = some (.slice A n c)) : (Go.method 183 48 (.pointer (some ⟨gq, 0, none⟩)) "Less").run Try.prog w = .ok (44, .slice A n c) w := by
 rw [Go.method]
 simp [go_sem]
 rw [m_Less]
 simp [go_sem, follow, recv_val, loadVar, h]
theorem mSwap (gq : Nat) (w : World) (A : Option Addr) (n c : Nat) (h : w.cell? ⟨gq, 0, none⟩ = some (.slice A n c)) : (Go.method 183 48 (.pointer (some ⟨gq, 0, none⟩)) "Swap").run Try.prog w = .ok (45, .slice A n c) w := by
 rw [Go.method]
 simp [go_sem]
 rw [m_Swap]
 simp [go_sem, follow, recv_val, loadVar, h]
theorem mLen (gq : Nat) (w : World) (A : Option Addr) (n c : Nat) (h : w.cell? ⟨gq, 0, none⟩ = some (.slice A n c)) : (Go.method 183 48 (.pointer (some ⟨gq, 0, none⟩)) "Len").run Try.prog w = .ok (43, .slice A n c) w := by
 rw [Go.method]
 simp [go_sem]
 rw [m_Len]
 simp [go_sem, follow, recv_val, loadVar, h]
theorem mPush (gq : Nat) (w : World) : (Go.method 183 48 (.pointer (some ⟨gq, 0, none⟩)) "Push").run Try.prog w = .ok (53, .pointer (some ⟨gq, 0, none⟩)) w := by
 rw [Go.method]
 simp [go_sem]
 rw [m_Push]
 simp [go_sem, follow, recv_ptr]
theorem mPop (gq : Nat) (w : World) : (Go.method 183 48 (.pointer (some ⟨gq, 0, none⟩)) "Pop").run Try.prog w = .ok (52, .pointer (some ⟨gq, 0, none⟩)) w := by
 rw [Go.method]
 simp [go_sem]
 rw [m_Pop]
 simp [go_sem, follow, recv_ptr]
def ordE (a b : S29) : Int := orI [cmpI a.f0 b.f0, cmpI a.f1 b.f1, cmpS a.f2 b.f2]
/-- An edit, as a value. -/
abbrev vE (a : S29) : Value := .agg #[.int .i64 a.f0, .int .i64 a.f1, .string a.f2]
theorem C_three (W : World) (x y z : Int) : Kd.C (Kd.int .i64) (W.alloc (.cells #[.int .i64 x, .int .i64 y, .int .i64 z] 3)) (some ⟨W.heap.size, 0, none⟩) 3 [x, y, z] := by
 refine ⟨rfl, by decide, fun _ => ⟨_, rfl, fun j p hj => ?_⟩⟩
 have hcell : ∀ i, (W.alloc (.cells #[.int .i64 x, .int .i64 y, .int .i64 z] 3)).cell? ((⟨W.heap.size, 0, none⟩ : Addr).add i) = (#[Value.int .i64 x, .int .i64 y, .int .i64 z])[i]? := by
  intro i
  have h0 : (⟨W.heap.size, 0, none⟩ : Addr).add i = ⟨W.heap.size, i, none⟩ := by
   unfold Addr.add
   split
   ·subst_vars; rfl
   ·simp
  rw [h0, blk_cell (heap_alloc_new W _) i]
 match j, hj with
 | 0, hj =>
  obtain rfl := Option.some.inj hj
  exact ⟨[.int .i64 x], rfl, rfl, fun i u hi => by match i, hi with | 0, hi => rw [hcell]; exact hi⟩
 | 1, hj =>
  obtain rfl := Option.some.inj hj
  exact ⟨[.int .i64 y], rfl, rfl, fun i u hi => by match i, hi with | 0, hi => rw [hcell]; exact hi⟩
 | 2, hj =>
  obtain rfl := Option.some.inj hj
  exact ⟨[.int .i64 z], rfl, rfl, fun i u hi => by match i, hi with | 0, hi => rw [hcell]; exact hi⟩
theorem or_three (W : World) (x y z : Int) : Calls Try.prog 47 #[.slice (some ⟨W.heap.size, 0, none⟩) 3 3] (W.alloc (.cells #[.int .i64 x, .int .i64 y, .int .i64 z] 3)) fun e w' => e = .returned (.int .i64 (orI [x, y, z])) ∧ W.alloc (.cells #[.int .i64 x, .int .i64 y, .int .i64 z] 3) = w' :=
 or_int (some ⟨W.heap.size, 0, none⟩) 3 [x, y, z] _ (C_three W x y z) (by simp)
set_option maxHeartbeats 4000000 in
set_option maxRecDepth 100000 in
theorem order_c (a b : S29) (w : World) : Calls Try.prog 46 #[vE a, vE b] w fun e w' => e = .returned (.int .i64 (ordE a b)) ∧ Below w.heap.size w w' := by
 go_enter Try.func46, Try.ntmps46
 go_wp2_with fail
 have BA := Aside0.mk (blk_drew (blk_alloc (heap_alloc_new w (.cells #[.int .i64 a.f0, .int .i64 a.f1, .string a.f2] 29)) (.cells #[.int .i64 b.f0, .int .i64 b.f1, .string b.f2] 29)))
 have BB := Aside0.mk (blk_drew (show ((w.alloc (.cells #[.int .i64 a.f0, .int .i64 a.f1, .string a.f2] 29)).alloc (.cells #[.int .i64 b.f0, .int .i64 b.f1, .string b.f2] 29)).heap[w.heap.size + 1]? = _ from by have h := heap_alloc_new (w.alloc (.cells #[.int .i64 a.f0, .int .i64 a.f1, .string a.f2] 29)) (.cells #[.int .i64 b.f0, .int .i64 b.f1, .string b.f2] 29); rwa [World.size_alloc] at h))
 have HB := Aside0.mk (below_drew1 (below_alloc (below_alloc (Below.refl w.heap.size w) (.cells #[.int .i64 a.f0, .int .i64 a.f1, .string a.f2] 29)) (.cells #[.int .i64 b.f0, .int .i64 b.f1, .string b.f2] 29)))
 obtain ⟨ga, hga⟩ : ∃ ga, w.heap.size = ga := ⟨_, rfl⟩
 obtain ⟨gb, hgb⟩ : ∃ gb, w.heap.size + 1 = gb := ⟨_, rfl⟩
 rw [hgb] at BB ⊢
 rw [hga] at BA ⊢
 clear hga hgb
 refine start_ (n := 18) (S := fun w' => w'.cell? ⟨ga, 0, none⟩ = some (.int .i64 a.f0) ∧ w'.cell? ⟨ga, 1, none⟩ = some (.int .i64 a.f1) ∧ w'.cell? ⟨ga, 2, none⟩ = some (.string a.f2) ∧ w'.cell? ⟨gb, 0, none⟩ = some (.int .i64 b.f0) ∧ w'.cell? ⟨gb, 1, none⟩ = some (.int .i64 b.f1) ∧ w'.cell? ⟨gb, 2, none⟩ = some (.string b.f2)) (ds := []) #[false, false, false, false, false, false, false, false, false, false, false, false, false, false, false, false, false, false] (by kernel_rfl) rfl rfl ⟨(blk_cell BA.out 0).trans rfl, (blk_cell BA.out 1).trans rfl, (blk_cell BA.out 2).trans rfl, (blk_cell BB.out 0).trans rfl, (blk_cell BB.out 1).trans rfl, (blk_cell BB.out 2).trans rfl⟩ (fun hHeld => ?_)
 generalize World.drew _ = W1 at BA BB HB hHeld ⊢
 refine pure_ (i := 0) (N := some 5) (v := ?_) (a' := ?_) #[true, false, false, false, false, false, false, false, false, false, false, false, false, false, false, false, false, false] rfl rfl (by kernel_rfl) (fun _ _ _ h => h) (Or.inl ⟨by rfl, ?_⟩) ?_ ?_
 rotate_left
 ·intro w'
  go_simp
  with_reducible rfl
 rotate_left
 ·simp only [Act.put, List.setIfInBounds_toArray, List.set_cons_zero, List.set_cons_succ, i64_w, i32_w]
  rfl
 refine pure_ (i := 2) (N := some 7) (v := ?_) (a' := ?_) #[true, false, true, false, false, false, false, false, false, false, false, false, false, false, false, false, false, false] rfl rfl (by kernel_rfl) (fun _ _ _ h => h) (Or.inl ⟨by rfl, ?_⟩) ?_ ?_
 rotate_left
 ·intro w'
  go_simp
  with_reducible rfl
 rotate_left
 ·simp only [Act.put, List.setIfInBounds_toArray, List.set_cons_zero, List.set_cons_succ, i64_w, i32_w]
  rfl
 refine pure_ (i := 5) (N := some 10) (v := ?_) (a' := ?_) #[true, false, true, false, false, true, false, false, false, false, false, false, false, false, false, false, false, false] rfl rfl (by kernel_rfl) (fun _ _ _ h => h) (Or.inl ⟨by rfl, ?_⟩) ?_ ?_
 rotate_left
 ·intro w'
  go_simp
  with_reducible rfl
 rotate_left
 ·simp only [Act.put, List.setIfInBounds_toArray, List.set_cons_zero, List.set_cons_succ, i64_w, i32_w]
  rfl
 refine pure_ (i := 7) (N := some 12) (v := ?_) (a' := ?_) #[true, false, true, false, false, true, false, true, false, false, false, false, false, false, false, false, false, false] rfl rfl (by kernel_rfl) (fun _ _ _ h => h) (Or.inl ⟨by rfl, ?_⟩) ?_ ?_
 rotate_left
 ·intro w'
  go_simp
  with_reducible rfl
 rotate_left
 ·simp only [Act.put, List.setIfInBounds_toArray, List.set_cons_zero, List.set_cons_succ, i64_w, i32_w]
  rfl
 refine pure_ (i := 10) (N := some 15) (v := ?_) (a' := ?_) #[true, false, true, false, false, true, false, true, false, false, true, false, false, false, false, false, false, false] rfl rfl (by kernel_rfl) (fun _ _ _ h => h) (Or.inl ⟨by rfl, ?_⟩) ?_ ?_
 rotate_left
 ·intro w'
  go_simp
  with_reducible rfl
 rotate_left
 ·simp only [Act.put, List.setIfInBounds_toArray, List.set_cons_zero, List.set_cons_succ, i64_w, i32_w]
  rfl
 refine pure_ (i := 12) (N := some 17) (v := ?_) (a' := ?_) #[true, false, true, false, false, true, false, true, false, false, true, false, true, false, false, false, false, false] rfl rfl (by kernel_rfl) (fun _ _ _ h => h) (Or.inl ⟨by rfl, ?_⟩) ?_ ?_
 rotate_left
 ·intro w'
  go_simp
  with_reducible rfl
 rotate_left
 ·simp only [Act.put, List.setIfInBounds_toArray, List.set_cons_zero, List.set_cons_succ, i64_w, i32_w]
  rfl
 refine take_ (i := 1) (N := some 6) (v := ?_) (a' := ?_) #[true, true, true, false, false, true, false, true, false, false, true, false, true, false, false, false, false, false] rfl rfl (by kernel_rfl) (fun _ _ _ h => h) (Or.inl ⟨by rfl, ?_⟩) hHeld ?_ ?_
 rotate_left
 ·rintro w' ⟨s0, s1, s2, s3, s4, s5⟩
  go_simp
  with_reducible rfl
 rotate_left
 ·simp only [Act.put, List.setIfInBounds_toArray, List.set_cons_zero, List.set_cons_succ, i64_w, i32_w]
  rfl
 refine take_ (i := 3) (N := some 8) (v := ?_) (a' := ?_) #[true, true, true, true, false, true, false, true, false, false, true, false, true, false, false, false, false, false] rfl rfl (by kernel_rfl) (fun _ _ _ h => h) (Or.inl ⟨by rfl, ?_⟩) hHeld ?_ ?_
 rotate_left
 ·rintro w' ⟨s0, s1, s2, s3, s4, s5⟩
  go_simp
  with_reducible rfl
 rotate_left
 ·simp only [Act.put, List.setIfInBounds_toArray, List.set_cons_zero, List.set_cons_succ, i64_w, i32_w]
  rfl
 refine take_ (i := 6) (N := some 11) (v := ?_) (a' := ?_) #[true, true, true, true, false, true, true, true, false, false, true, false, true, false, false, false, false, false] rfl rfl (by kernel_rfl) (fun _ _ _ h => h) (Or.inl ⟨by rfl, ?_⟩) hHeld ?_ ?_
 rotate_left
 ·rintro w' ⟨s0, s1, s2, s3, s4, s5⟩
  go_simp
  with_reducible rfl
 rotate_left
 ·simp only [Act.put, List.setIfInBounds_toArray, List.set_cons_zero, List.set_cons_succ, i64_w, i32_w]
  rfl
 refine take_ (i := 8) (N := some 13) (v := ?_) (a' := ?_) #[true, true, true, true, false, true, true, true, true, false, true, false, true, false, false, false, false, false] rfl rfl (by kernel_rfl) (fun _ _ _ h => h) (Or.inl ⟨by rfl, ?_⟩) hHeld ?_ ?_
 rotate_left
 ·rintro w' ⟨s0, s1, s2, s3, s4, s5⟩
  go_simp
  with_reducible rfl
 rotate_left
 ·simp only [Act.put, List.setIfInBounds_toArray, List.set_cons_zero, List.set_cons_succ, i64_w, i32_w]
  rfl
 refine take_ (i := 11) (N := some 16) (v := ?_) (a' := ?_) #[true, true, true, true, false, true, true, true, true, false, true, true, true, false, false, false, false, false] rfl rfl (by kernel_rfl) (fun _ _ _ h => h) (Or.inl ⟨by rfl, ?_⟩) hHeld ?_ ?_
 rotate_left
 ·rintro w' ⟨s0, s1, s2, s3, s4, s5⟩
  go_simp
  with_reducible rfl
 rotate_left
 ·simp only [Act.put, List.setIfInBounds_toArray, List.set_cons_zero, List.set_cons_succ, i64_w, i32_w]
  rfl
 refine take_ (i := 13) (N := some 18) (v := ?_) (a' := ?_) #[true, true, true, true, false, true, true, true, true, false, true, true, true, true, false, false, false, false] rfl rfl (by kernel_rfl) (fun _ _ _ h => h) (Or.inl ⟨by rfl, ?_⟩) hHeld ?_ ?_
 rotate_left
 ·rintro w' ⟨s0, s1, s2, s3, s4, s5⟩
  go_simp
  with_reducible rfl
 rotate_left
 ·simp only [Act.put, List.setIfInBounds_toArray, List.set_cons_zero, List.set_cons_succ, i64_w, i32_w]
  rfl
 refine one_ (i := 4) (N := some 9) #[true, true, true, true, true, true, true, true, true, false, true, true, true, true, false, false, false, false] rfl rfl (by kernel_rfl) (by decide) (fun K hK => ?_)
 refine goes_ Try.func48 (by kernel_rfl) rfl #[.int .i64 a.f0, .int .i64 b.f0] (by rfl) rfl rfl (by simp only [List.map_toArray, List.map_cons, List.map_nil]; rfl) ?_
 with_reducible refine (cmp_int a.f0 b.f0 _).mono ?_
 rintro e w1 ⟨rfl, rfl⟩
 refine ⟨_, rfl, ?_⟩
 refine hK.out _ _ ⟨(blk_cell BA.out 0).trans rfl, (blk_cell BA.out 1).trans rfl, (blk_cell BA.out 2).trans rfl, (blk_cell BB.out 0).trans rfl, (blk_cell BB.out 1).trans rfl, (blk_cell BB.out 2).trans rfl⟩ (fun hHeld => ?_)
 clear hK K
 refine norm_ (a' := ?_) ?_ ?_
 rotate_left
 ·show Act.put _ (some 9) _ = _
  simp only [Act.put, List.setIfInBounds_toArray, List.set_cons_zero, List.set_cons_succ, i64_w, i32_w]
  rfl
 refine one_ (i := 9) (N := some 14) #[true, true, true, true, true, true, true, true, true, true, true, true, true, true, false, false, false, false] rfl rfl (by kernel_rfl) (by decide) (fun K hK => ?_)
 refine goes_ Try.func48 (by kernel_rfl) rfl #[.int .i64 a.f1, .int .i64 b.f1] (by rfl) rfl rfl (by simp only [List.map_toArray, List.map_cons, List.map_nil]; rfl) ?_
 with_reducible refine (cmp_int a.f1 b.f1 _).mono ?_
 rintro e w1 ⟨rfl, rfl⟩
 refine ⟨_, rfl, ?_⟩
 refine hK.out _ _ ⟨(blk_cell BA.out 0).trans rfl, (blk_cell BA.out 1).trans rfl, (blk_cell BA.out 2).trans rfl, (blk_cell BB.out 0).trans rfl, (blk_cell BB.out 1).trans rfl, (blk_cell BB.out 2).trans rfl⟩ (fun hHeld => ?_)
 clear hK K
 refine norm_ (a' := ?_) ?_ ?_
 rotate_left
 ·show Act.put _ (some 14) _ = _
  simp only [Act.put, List.setIfInBounds_toArray, List.set_cons_zero, List.set_cons_succ, i64_w, i32_w]
  rfl
 refine one_ (i := 14) (N := some 19) #[true, true, true, true, true, true, true, true, true, true, true, true, true, true, true, false, false, false] rfl rfl (by kernel_rfl) (by decide) (fun K hK => ?_)
 refine goes_ Try.func49 (by kernel_rfl) rfl #[.string a.f2, .string b.f2] (by rfl) rfl rfl (by simp only [List.map_toArray, List.map_cons, List.map_nil]; rfl) ?_
 with_reducible refine (cmp_str a.f2 b.f2 _).mono ?_
 rintro e w1 ⟨rfl, rfl⟩
 refine ⟨_, rfl, ?_⟩
 refine hK.out _ _ ⟨(blk_cell BA.out 0).trans rfl, (blk_cell BA.out 1).trans rfl, (blk_cell BA.out 2).trans rfl, (blk_cell BB.out 0).trans rfl, (blk_cell BB.out 1).trans rfl, (blk_cell BB.out 2).trans rfl⟩ (fun hHeld => ?_)
 clear hK K
 refine norm_ (a' := ?_) ?_ ?_
 rotate_left
 ·show Act.put _ (some 19) _ = _
  simp only [Act.put, List.setIfInBounds_toArray, List.set_cons_zero, List.set_cons_succ, i64_w, i32_w]
  rfl
 refine one_ (i := 15) (N := some 20) #[true, true, true, true, true, true, true, true, true, true, true, true, true, true, true, true, false, false] rfl rfl (by kernel_rfl) (by decide) (fun K hK => ?_)
 refine value_ (w1 := ?_) (v := ?_) (by rfl) rfl ?_ ?_
 rotate_left 2
 ·go_simp
  constructor
  ·rfl
  ·rfl
 refine hK.out _ _ ⟨(blk_cell (blk_alloc BA.out _) 0).trans rfl, (blk_cell (blk_alloc BA.out _) 1).trans rfl, (blk_cell (blk_alloc BA.out _) 2).trans rfl, (blk_cell (blk_alloc BB.out _) 0).trans rfl, (blk_cell (blk_alloc BB.out _) 1).trans rfl, (blk_cell (blk_alloc BB.out _) 2).trans rfl⟩ (fun hHeld => ?_)
 clear hK K
 refine norm_ (a' := ?_) ?_ ?_
 rotate_left
 ·show Act.put _ (some 20) _ = _
  simp only [Act.put, List.setIfInBounds_toArray, List.set_cons_zero, List.set_cons_succ, i64_w, i32_w]
  rfl
 refine one_ (i := 16) (N := some 21) #[true, true, true, true, true, true, true, true, true, true, true, true, true, true, true, true, true, false] rfl rfl (by kernel_rfl) (by decide) (fun K hK => ?_)
 refine goes_ Try.func47 (by kernel_rfl) rfl #[.slice (some ⟨W1.heap.size, 0, none⟩) 3 3] (by rfl) rfl rfl (by simp only [List.map_toArray, List.map_cons, List.map_nil]; rfl) ?_
 with_reducible refine (or_three W1 _ _ _).mono ?_
 rintro e w1 ⟨rfl, rfl⟩
 have HB2 := Aside0.mk (below_alloc HB.out (.cells #[.int .i64 (cmpI a.f0 b.f0), .int .i64 (cmpI a.f1 b.f1), .int .i64 (cmpS a.f2 b.f2)] 3))
 refine ⟨_, rfl, ?_⟩
 refine hK.out _ _ ⟨(blk_cell (blk_alloc BA.out _) 0).trans rfl, (blk_cell (blk_alloc BA.out _) 1).trans rfl, (blk_cell (blk_alloc BA.out _) 2).trans rfl, (blk_cell (blk_alloc BB.out _) 0).trans rfl, (blk_cell (blk_alloc BB.out _) 1).trans rfl, (blk_cell (blk_alloc BB.out _) 2).trans rfl⟩ (fun hHeld => ?_)
 clear hK K
 refine norm_ (a' := ?_) ?_ ?_
 rotate_left
 ·show Act.put _ (some 21) _ = _
  simp only [Act.put, List.setIfInBounds_toArray, List.set_cons_zero, List.set_cons_succ, i64_w, i32_w]
  rfl
 refine pure_ (i := 17) (N := some 4) (v := ?_) (a' := ?_) #[true, true, true, true, true, true, true, true, true, true, true, true, true, true, true, true, true, true] rfl rfl (by kernel_rfl) (fun _ _ _ h => h) (Or.inl ⟨by rfl, ?_⟩) ?_ ?_
 rotate_left
 ·intro w'
  go_simp
  with_reducible rfl
 rotate_left
 ·simp only [Act.put, List.setIfInBounds_toArray, List.set_cons_zero, List.set_cons_succ, i64_w, i32_w]
  rfl
 refine done_ (by kernel_rfl) ?_
 go_wp2_with fail
 go_ret
 exact ⟨rfl, HB2.out⟩
def ltE (a b : S29) : Bool := decide (ordE a b < 0)
set_option maxHeartbeats 4000000 in
set_option maxRecDepth 100000 in
theorem less_c (A : Option Addr) (n c : Nat) (xs : List S29) (i j : Int) (w : World) (hr : Kd.C k29 w A n xs) (i0 : 0 ≤ i) (il : i < n) (j0 : 0 ≤ j) (jl : j < n) :
  Calls Try.prog 44 #[.slice A n c, .int .i64 i, .int .i64 j] w fun e w' => e = .returned (.bool (ltE (rd_T29 xs i) (rd_T29 xs j))) ∧ Below w.heap.size w w' := by
 obtain ⟨ad, rfl, x0, x1, x2⟩ := at_T29 hr i i0 il
 obtain ⟨ad2, e2, y0, y1, y2⟩ := at_T29 hr j j0 jl
 cases e2
 generalize rd_T29 xs i = a at x0 x1 x2 ⊢
 generalize rd_T29 xs j = b at y0 y1 y2 ⊢
 have p1 := eq_true i0
 have p2 := eq_true il
 have p3 := eq_true j0
 have p4 := eq_true jl
 clear i0 il j0 jl hr
 go_enter Try.func44, Try.ntmps44
 go_wp2_with fail
 refine start_ (n := 11) (S := fun w' => w'.cell? (ad.add (i.toNat * 3)) = some (.int .i64 a.f0) ∧ w'.cell? ⟨(ad.add (i.toNat * 3)).block, (ad.add (i.toNat * 3)).off + 1, none⟩ = some (.int .i64 a.f1) ∧ w'.cell? ⟨(ad.add (i.toNat * 3)).block, (ad.add (i.toNat * 3)).off + 2, none⟩ = some (.string a.f2) ∧ w'.cell? (ad.add (j.toNat * 3)) = some (.int .i64 b.f0) ∧ w'.cell? ⟨(ad.add (j.toNat * 3)).block, (ad.add (j.toNat * 3)).off + 1, none⟩ = some (.int .i64 b.f1) ∧ w'.cell? ⟨(ad.add (j.toNat * 3)).block, (ad.add (j.toNat * 3)).off + 2, none⟩ = some (.string b.f2)) (ds := []) #[false, false, false, false, false, false, false, false, false, false, false] (by kernel_rfl) rfl rfl ⟨x0, x1, x2, y0, y1, y2⟩ (fun hHeld => ?_)
 refine pure_ (i := 0) (N := some 7) (v := ?_) (a' := ?_) #[true, false, false, false, false, false, false, false, false, false, false] rfl rfl (by kernel_rfl) (fun _ _ _ h => h) (Or.inl ⟨by rfl, ?_⟩) ?_ ?_
 rotate_left
 ·intro w'
  go_simp
  with_reducible rfl
 rotate_left
 ·simp only [Act.put, List.setIfInBounds_toArray, List.set_cons_zero, List.set_cons_succ, i64_w, i32_w]
  rfl
 refine pure_ (i := 1) (N := some 8) (v := ?_) (a' := ?_) #[true, true, false, false, false, false, false, false, false, false, false] rfl rfl (by kernel_rfl) (fun _ _ _ h => h) (Or.inl ⟨by rfl, ?_⟩) ?_ ?_
 rotate_left
 ·intro w'
  go_simp
  with_reducible rfl
 rotate_left
 ·simp only [Act.put, List.setIfInBounds_toArray, List.set_cons_zero, List.set_cons_succ, i64_w, i32_w]
  rfl
 refine pure_ (i := 2) (N := some 9) (v := ?_) (a' := ?_) #[true, true, true, false, false, false, false, false, false, false, false] rfl rfl (by kernel_rfl) (fun _ _ _ h => h) (Or.inl ⟨by rfl, ?_⟩) ?_ ?_
 rotate_left
 ·intro w'
  go_simp
  with_reducible rfl
 rotate_left
 ·simp only [Act.put, List.setIfInBounds_toArray, List.set_cons_zero, List.set_cons_succ, i64_w, i32_w]
  rfl
 refine pure_ (i := 4) (N := some 11) (v := ?_) (a' := ?_) #[true, true, true, false, true, false, false, false, false, false, false] rfl rfl (by kernel_rfl) (fun _ _ _ h => h) (Or.inl ⟨by rfl, ?_⟩) ?_ ?_
 rotate_left
 ·intro w'
  go_simp
  with_reducible rfl
 rotate_left
 ·simp only [Act.put, List.setIfInBounds_toArray, List.set_cons_zero, List.set_cons_succ, i64_w, i32_w]
  rfl
 refine pure_ (i := 5) (N := some 12) (v := ?_) (a' := ?_) #[true, true, true, false, true, true, false, false, false, false, false] rfl rfl (by kernel_rfl) (fun _ _ _ h => h) (Or.inl ⟨by rfl, ?_⟩) ?_ ?_
 rotate_left
 ·intro w'
  go_simp
  with_reducible rfl
 rotate_left
 ·simp only [Act.put, List.setIfInBounds_toArray, List.set_cons_zero, List.set_cons_succ, i64_w, i32_w]
  rfl
 refine pure_ (i := 6) (N := some 13) (v := ?_) (a' := ?_) #[true, true, true, false, true, true, true, false, false, false, false] rfl rfl (by kernel_rfl) (fun _ _ _ h => h) (Or.inl ⟨by rfl, ?_⟩) ?_ ?_
 rotate_left
 ·intro w'
  go_simp
  with_reducible rfl
 rotate_left
 ·simp only [Act.put, List.setIfInBounds_toArray, List.set_cons_zero, List.set_cons_succ, i64_w, i32_w]
  rfl
 refine take_ (i := 3) (N := some 10) (v := ?_) (a' := ?_) #[true, true, true, true, true, true, true, false, false, false, false] rfl rfl (by kernel_rfl) (fun _ _ _ h => h) (Or.inl ⟨by rfl, ?_⟩) hHeld ?_ ?_
 rotate_left
 ·rintro w' ⟨s0, s1, s2, s3, s4, s5⟩
  go_simp
  with_reducible rfl
 rotate_left
 ·simp only [Act.put, List.setIfInBounds_toArray, List.set_cons_zero, List.set_cons_succ, i64_w, i32_w]
  rfl
 refine take_ (i := 7) (N := some 14) (v := ?_) (a' := ?_) #[true, true, true, true, true, true, true, true, false, false, false] rfl rfl (by kernel_rfl) (fun _ _ _ h => h) (Or.inl ⟨by rfl, ?_⟩) hHeld ?_ ?_
 rotate_left
 ·rintro w' ⟨s0, s1, s2, s3, s4, s5⟩
  go_simp
  with_reducible rfl
 rotate_left
 ·simp only [Act.put, List.setIfInBounds_toArray, List.set_cons_zero, List.set_cons_succ, i64_w, i32_w]
  rfl
 refine one_ (i := 8) (N := some 15) #[true, true, true, true, true, true, true, true, true, false, false] rfl rfl (by kernel_rfl) (by decide) (fun K hK => ?_)
 refine goes_ Try.func46 (by kernel_rfl) rfl #[vE a, vE b] (by rfl) rfl rfl (by simp only [List.map_toArray, List.map_cons, List.map_nil]; rfl) ?_
 with_reducible refine (order_c a b _).mono ?_
 rintro e w1 ⟨rfl, hb⟩
 have HB := Aside0.mk (below_step (below_drew1 (Below.refl w.heap.size w)) hb)
 refine ⟨_, rfl, ?_⟩
 refine hK.out _ _ ⟨(hb.cell (World.block_lt_of_cell? _ _ x0)).trans x0, (hb.cell (World.block_lt_of_cell? _ _ x1)).trans x1, (hb.cell (World.block_lt_of_cell? _ _ x2)).trans x2, (hb.cell (World.block_lt_of_cell? _ _ y0)).trans y0, (hb.cell (World.block_lt_of_cell? _ _ y1)).trans y1, (hb.cell (World.block_lt_of_cell? _ _ y2)).trans y2⟩ (fun hHeld => ?_)
 clear hK K
 refine norm_ (a' := ?_) ?_ ?_
 rotate_left
 ·show Act.put _ (some 15) _ = _
  simp only [Act.put, List.setIfInBounds_toArray, List.set_cons_zero, List.set_cons_succ, i64_w, i32_w]
  rfl
 refine pure_ (i := 9) (N := some 16) (v := ?_) (a' := ?_) #[true, true, true, true, true, true, true, true, true, true, false] rfl rfl (by kernel_rfl) (fun _ _ _ h => h) (Or.inl ⟨by rfl, ?_⟩) ?_ ?_
 rotate_left
 ·intro w'
  go_simp
  with_reducible rfl
 rotate_left
 ·simp only [Act.put, List.setIfInBounds_toArray, List.set_cons_zero, List.set_cons_succ, i64_w, i32_w]
  rfl
 refine pure_ (i := 10) (N := some 6) (v := ?_) (a' := ?_) #[true, true, true, true, true, true, true, true, true, true, true] rfl rfl (by kernel_rfl) (fun _ _ _ h => h) (Or.inl ⟨by rfl, ?_⟩) ?_ ?_
 rotate_left
 ·intro w'
  go_simp
  with_reducible rfl
 rotate_left
 ·simp only [Act.put, List.setIfInBounds_toArray, List.set_cons_zero, List.set_cons_succ, i64_w, i32_w]
  rfl
 refine done_ (by kernel_rfl) ?_
 go_wp2_with fail
 go_ret
 exact ⟨rfl, HB.out⟩
theorem R_set29 {W : World} {base : Nat} {ok : Nat → Prop} {g n cap : Nat} {xs : List S29} (HO : Kd.R k29 29 W base ok (.slice (some ⟨g, 0, none⟩) n cap) xs) (i : Int) (h0 : 0 ≤ i) (hi : i < n) (x : S29) :
  Kd.R k29 29 (((W.setCell ⟨g, i.toNat * 3, none⟩ (.int .i64 x.f0)).setCell ⟨g, i.toNat * 3 + 1, none⟩ (.int .i64 x.f1)).setCell ⟨g, i.toNat * 3 + 2, none⟩ (.string x.f2)) base ok (.slice (some ⟨g, 0, none⟩) n cap) (xs.set i.toNat x) ∧
  W.grownBy (((W.setCell ⟨g, i.toNat * 3, none⟩ (.int .i64 x.f0)).setCell ⟨g, i.toNat * 3 + 1, none⟩ (.int .i64 x.f1)).setCell ⟨g, i.toNat * 3 + 2, none⟩ (.string x.f2)) (some g) := by
 have hC := (Kd.R_reads' HO).2.2
 rw [← (Kd.R_reads' HO).1] at hC
 obtain ⟨ad, c, ha, hlc, hK, hc⟩ := Kd.C_get hC z29 i h0 hi
 obtain rfl := Option.some.inj ha
 have hcc : ∀ j u, c[j]? = some u → W.cell? ⟨g, i.toNat * k29.sz + j, none⟩ = some u := by
  intro j u hu
  have h1 := hc j u hu
  rwa [show (⟨g, 0, none⟩ : Addr).add (i.toNat * k29.sz + j) = ⟨g, i.toNat * k29.sz + j, none⟩ from by unfold Addr.add; split; (rename_i hz; rw [hz]); simp] at h1
 have h := Kd.R_seg HO i h0 hi (c := c) (j := 0) (seg := [.int .i64 x.f0, .int .i64 x.f1, .string x.f2]) (x' := x) (okp := fun _ => False) hlc hcc (Nat.le_refl 3) (by rw [List.take_zero, List.nil_append, List.drop_eq_nil_of_le (by rw [hlc]; exact Nat.le_refl 3), List.append_nil]; exact k29_mkM W base _ x) (fun _ h => h.elim)
 exact h
theorem below_set3 {base : Nat} {w W : World} {g : Nat} (h : Below base w W) (hg : base ≤ g) (a b c : Nat) (u v x : Value) : Below base w (((W.setCell ⟨g, a, none⟩ u).setCell ⟨g, b, none⟩ v).setCell ⟨g, c, none⟩ x) :=
 ((h.setCell (p := ⟨g, a, none⟩) hg u).setCell (p := ⟨g, b, none⟩) hg v).setCell (p := ⟨g, c, none⟩) hg x
theorem kept_set3 {w W : World} {g : Nat} (h : Kept w W (fun k => k = g)) (a b c : Nat) (u v x : Value) : Kept w (((W.setCell ⟨g, a, none⟩ u).setCell ⟨g, b, none⟩ v).setCell ⟨g, c, none⟩ x) (fun k => k = g) :=
 Kept.setCell (p := ⟨g, c, none⟩) (Kept.setCell (p := ⟨g, b, none⟩) (Kept.setCell (p := ⟨g, a, none⟩) h (.inl rfl) u) (.inl rfl) v) (.inl rfl) x
theorem add_zero3 (g k : Nat) : (⟨g, 0, none⟩ : Addr).add k = ⟨g, k, none⟩ := by
 unfold Addr.add
 split
 ·rename_i hz; rw [hz]
 ·simp
/-- An edit of a row of its own: its cells. -/
theorem row_E {W : World} {base : Nat} {ok : Nat → Prop} {g n c : Nat} {xs : List S29} (h : Kd.R k29 29 W base ok (.slice (some ⟨g, 0, none⟩) n c) xs) (i : Int) (h0 : 0 ≤ i) (hi : i < n) :
  W.cell? ⟨g, i.toNat * 3, none⟩ = some (.int .i64 (rd_T29 xs i).f0) ∧ W.cell? ⟨g, i.toNat * 3 + 1, none⟩ = some (.int .i64 (rd_T29 xs i).f1) ∧ W.cell? ⟨g, i.toNat * 3 + 2, none⟩ = some (.string (rd_T29 xs i).f2) ∧ W.frozen? ⟨g, i.toNat * 3, none⟩ = false ∧ W.frozen? ⟨g, i.toNat * 3 + 1, none⟩ = false ∧ W.frozen? ⟨g, i.toNat * 3 + 2, none⟩ = false := by
 have hC := (Kd.R_reads' h).2.2
 rw [← (Kd.R_reads' h).1] at hC
 obtain ⟨ad, e1, x0, x1, x2⟩ := at_T29 hC i h0 hi
 cases e1
 rw [add_zero3] at x0 x1 x2
 obtain ⟨g', c', e', _, _, cs, hb⟩ := Kd.R_form h (by have := (Kd.R_reads' h).1; omega)
 injection e' with e1 e2 e3
 injection e1 with e1
 injection e1 with e1
 subst e1
 exact ⟨x0, x1, x2, blk_frozen hb _, blk_frozen hb _, blk_frozen hb _⟩
set_option maxHeartbeats 4000000 in
set_option maxRecDepth 100000 in
theorem swap_c (base : Nat) (ok : Nat → Prop) (g n c : Nat) (xs : List S29) (i j : Int) (w : World) (hr : Kd.R k29 29 w base ok (.slice (some ⟨g, 0, none⟩) n c) xs) (i0 : 0 ≤ i) (il : i < n) (j0 : 0 ≤ j) (jl : j < n) (hb : base ≤ g) :
  Calls Try.prog 45 #[.slice (some ⟨g, 0, none⟩) n c, .int .i64 i, .int .i64 j] w fun e w' => e = .returned (.tuple #[]) ∧ Kd.R k29 29 w' base ok (.slice (some ⟨g, 0, none⟩) n c) ((xs.set i.toNat (rd_T29 xs j)).set j.toNat (rd_T29 xs i)) ∧ Below base w w' ∧ Kept w w' (fun k => k = g) := by
 obtain ⟨x0, x1, x2, x3, x4, x5⟩ := row_E (Kd.R_drew hr) i i0 il
 obtain ⟨y0, y1, y2, _, _, _⟩ := row_E (Kd.R_drew hr) j j0 jl
 generalize rd_T29 xs i = a at x0 x1 x2 ⊢
 generalize rd_T29 xs j = b at y0 y1 y2 ⊢
 have h1 := R_set29 (Kd.R_drew hr) i i0 il b
 obtain ⟨z0, z1, z2, z3, z4, z5⟩ := row_E h1.1 j j0 jl
 have h2 := R_set29 h1.1 j j0 jl a
 have H2 := Aside0.mk h2.1
 have Z := Aside0.mk (And.intro z0 (And.intro z1 (And.intro z2 (And.intro z3 (And.intro z4 z5)))))
 have HB2 := Aside0.mk (below_set3 (below_set3 (below_drew1 (Below.refl base w)) hb _ _ _ _ _ _) hb (j.toNat * 3) (j.toNat * 3 + 1) (j.toNat * 3 + 2) (.int .i64 a.f0) (.int .i64 a.f1) (.string a.f2) : Below base w ((((((w.drew.setCell ⟨g, i.toNat * 3, none⟩ (.int .i64 b.f0)).setCell ⟨g, i.toNat * 3 + 1, none⟩ (.int .i64 b.f1)).setCell ⟨g, i.toNat * 3 + 2, none⟩ (.string b.f2)).setCell ⟨g, j.toNat * 3, none⟩ (.int .i64 a.f0)).setCell ⟨g, j.toNat * 3 + 1, none⟩ (.int .i64 a.f1)).setCell ⟨g, j.toNat * 3 + 2, none⟩ (.string a.f2)))
 have HK2 := Aside0.mk (kept_set3 (kept_set3 (Kept.drew (Kept.refl w (fun k => k = g))) _ _ _ _ _ _) (j.toNat * 3) (j.toNat * 3 + 1) (j.toNat * 3 + 2) (.int .i64 a.f0) (.int .i64 a.f1) (.string a.f2) : Kept w ((((((w.drew.setCell ⟨g, i.toNat * 3, none⟩ (.int .i64 b.f0)).setCell ⟨g, i.toNat * 3 + 1, none⟩ (.int .i64 b.f1)).setCell ⟨g, i.toNat * 3 + 2, none⟩ (.string b.f2)).setCell ⟨g, j.toNat * 3, none⟩ (.int .i64 a.f0)).setCell ⟨g, j.toNat * 3 + 1, none⟩ (.int .i64 a.f1)).setCell ⟨g, j.toNat * 3 + 2, none⟩ (.string a.f2)) (fun k => k = g))
 have p1 := eq_true i0
 have p2 := eq_true il
 have p3 := eq_true j0
 have p4 := eq_true jl
 clear i0 il j0 jl hr h1 h2 z0 z1 z2 z3 z4 z5
 go_enter Try.func45, Try.ntmps45
 go_wp2_with fail
 refine start_ (n := 16) (S := fun w' => w'.cell? ⟨g, i.toNat * 3, none⟩ = some (.int .i64 a.f0) ∧ w'.cell? ⟨g, i.toNat * 3 + 1, none⟩ = some (.int .i64 a.f1) ∧ w'.cell? ⟨g, i.toNat * 3 + 2, none⟩ = some (.string a.f2) ∧ w'.cell? ⟨g, j.toNat * 3, none⟩ = some (.int .i64 b.f0) ∧ w'.cell? ⟨g, j.toNat * 3 + 1, none⟩ = some (.int .i64 b.f1) ∧ w'.cell? ⟨g, j.toNat * 3 + 2, none⟩ = some (.string b.f2)) (ds := [13, 15]) #[false, false, false, false, false, false, false, false, false, false, false, false, false, false, false, false] (by kernel_rfl) rfl rfl ⟨x0, x1, x2, y0, y1, y2⟩ (fun hHeld => ?_)
 generalize w.drew = w0 at x0 x1 x2 x3 x4 x5 y0 y1 y2 H2 Z HB2 HK2 hHeld ⊢
 refine pure_ (i := 0) (N := some 6) (v := ?_) (a' := ?_) #[true, false, false, false, false, false, false, false, false, false, false, false, false, false, false, false] rfl rfl (by kernel_rfl) (fun _ _ _ h => h) (Or.inl ⟨by rfl, ?_⟩) ?_ ?_
 rotate_left
 ·intro w'
  go_simp
  with_reducible rfl
 rotate_left
 ·simp only [Act.put, List.setIfInBounds_toArray, List.set_cons_zero, List.set_cons_succ, i64_w, i32_w]
  rfl
 refine pure_ (i := 1) (N := some 7) (v := ?_) (a' := ?_) #[true, true, false, false, false, false, false, false, false, false, false, false, false, false, false, false] rfl rfl (by kernel_rfl) (fun _ _ _ h => h) (Or.inl ⟨by rfl, ?_⟩) ?_ ?_
 rotate_left
 ·intro w'
  go_simp
  with_reducible rfl
 rotate_left
 ·simp only [Act.put, List.setIfInBounds_toArray, List.set_cons_zero, List.set_cons_succ, i64_w, i32_w]
  rfl
 refine pure_ (i := 2) (N := some 8) (v := ?_) (a' := ?_) #[true, true, true, false, false, false, false, false, false, false, false, false, false, false, false, false] rfl rfl (by kernel_rfl) (fun _ _ _ h => h) (Or.inl ⟨by rfl, ?_⟩) ?_ ?_
 rotate_left
 ·intro w'
  go_simp
  with_reducible rfl
 rotate_left
 ·simp only [Act.put, List.setIfInBounds_toArray, List.set_cons_zero, List.set_cons_succ, i64_w, i32_w]
  rfl
 refine pure_ (i := 3) (N := some 9) (v := ?_) (a' := ?_) #[true, true, true, true, false, false, false, false, false, false, false, false, false, false, false, false] rfl rfl (by kernel_rfl) (fun _ _ _ h => h) (Or.inl ⟨by rfl, ?_⟩) ?_ ?_
 rotate_left
 ·intro w'
  go_simp
  with_reducible rfl
 rotate_left
 ·simp only [Act.put, List.setIfInBounds_toArray, List.set_cons_zero, List.set_cons_succ, i64_w, i32_w]
  rfl
 refine pure_ (i := 4) (N := some 10) (v := ?_) (a' := ?_) #[true, true, true, true, true, false, false, false, false, false, false, false, false, false, false, false] rfl rfl (by kernel_rfl) (fun _ _ _ h => h) (Or.inl ⟨by rfl, ?_⟩) ?_ ?_
 rotate_left
 ·intro w'
  go_simp
  with_reducible rfl
 rotate_left
 ·simp only [Act.put, List.setIfInBounds_toArray, List.set_cons_zero, List.set_cons_succ, i64_w, i32_w]
  rfl
 refine pure_ (i := 5) (N := some 11) (v := ?_) (a' := ?_) #[true, true, true, true, true, true, false, false, false, false, false, false, false, false, false, false] rfl rfl (by kernel_rfl) (fun _ _ _ h => h) (Or.inl ⟨by rfl, ?_⟩) ?_ ?_
 rotate_left
 ·intro w'
  go_simp
  with_reducible rfl
 rotate_left
 ·simp only [Act.put, List.setIfInBounds_toArray, List.set_cons_zero, List.set_cons_succ, i64_w, i32_w]
  rfl
 refine pure_ (i := 6) (N := some 12) (v := ?_) (a' := ?_) #[true, true, true, true, true, true, true, false, false, false, false, false, false, false, false, false] rfl rfl (by kernel_rfl) (fun _ _ _ h => h) (Or.inl ⟨by rfl, ?_⟩) ?_ ?_
 rotate_left
 ·intro w'
  go_simp
  with_reducible rfl
 rotate_left
 ·simp only [Act.put, List.setIfInBounds_toArray, List.set_cons_zero, List.set_cons_succ, i64_w, i32_w]
  rfl
 refine pure_ (i := 8) (N := some 14) (v := ?_) (a' := ?_) #[true, true, true, true, true, true, true, false, true, false, false, false, false, false, false, false] rfl rfl (by kernel_rfl) (fun _ _ _ h => h) (Or.inl ⟨by rfl, ?_⟩) ?_ ?_
 rotate_left
 ·intro w'
  go_simp
  with_reducible rfl
 rotate_left
 ·simp only [Act.put, List.setIfInBounds_toArray, List.set_cons_zero, List.set_cons_succ, i64_w, i32_w]
  rfl
 refine pure_ (i := 9) (N := some 15) (v := ?_) (a' := ?_) #[true, true, true, true, true, true, true, false, true, true, false, false, false, false, false, false] rfl rfl (by kernel_rfl) (fun _ _ _ h => h) (Or.inl ⟨by rfl, ?_⟩) ?_ ?_
 rotate_left
 ·intro w'
  go_simp
  with_reducible rfl
 rotate_left
 ·simp only [Act.put, List.setIfInBounds_toArray, List.set_cons_zero, List.set_cons_succ, i64_w, i32_w]
  rfl
 refine pure_ (i := 10) (N := some 16) (v := ?_) (a' := ?_) #[true, true, true, true, true, true, true, false, true, true, true, false, false, false, false, false] rfl rfl (by kernel_rfl) (fun _ _ _ h => h) (Or.inl ⟨by rfl, ?_⟩) ?_ ?_
 rotate_left
 ·intro w'
  go_simp
  with_reducible rfl
 rotate_left
 ·simp only [Act.put, List.setIfInBounds_toArray, List.set_cons_zero, List.set_cons_succ, i64_w, i32_w]
  rfl
 refine take_ (i := 7) (N := some 13) (v := ?_) (a' := ?_) #[true, true, true, true, true, true, true, true, true, true, true, false, false, false, false, false] rfl rfl (by kernel_rfl) (fun _ _ _ h => h) (Or.inl ⟨by rfl, ?_⟩) hHeld ?_ ?_
 rotate_left
 ·rintro w' ⟨s0, s1, s2, s3, s4, s5⟩
  go_simp
  with_reducible rfl
 rotate_left
 ·simp only [Act.put, List.setIfInBounds_toArray, List.set_cons_zero, List.set_cons_succ, i64_w, i32_w]
  rfl
 refine take_ (i := 11) (N := some 17) (v := ?_) (a' := ?_) #[true, true, true, true, true, true, true, true, true, true, true, true, false, false, false, false] rfl rfl (by kernel_rfl) (fun _ _ _ h => h) (Or.inl ⟨by rfl, ?_⟩) hHeld ?_ ?_
 rotate_left
 ·rintro w' ⟨s0, s1, s2, s3, s4, s5⟩
  go_simp
  with_reducible rfl
 rotate_left
 ·simp only [Act.put, List.setIfInBounds_toArray, List.set_cons_zero, List.set_cons_succ, i64_w, i32_w]
  rfl
 refine pure_ (i := 12) (N := some 18) (v := ?_) (a' := ?_) #[true, true, true, true, true, true, true, true, true, true, true, true, true, false, false, false] rfl rfl (by kernel_rfl) (fun _ _ _ h => h) (Or.inl ⟨by rfl, ?_⟩) ?_ ?_
 rotate_left
 ·intro w'
  go_simp
  with_reducible rfl
 rotate_left
 ·simp only [Act.put, List.setIfInBounds_toArray, List.set_cons_zero, List.set_cons_succ, i64_w, i32_w]
  rfl
 refine last_ (i := 13) (N := none) #[true, true, true, true, true, true, true, true, true, true, true, true, true, true, false, false] rfl rfl (by kernel_rfl) (by decide) (fun K hK => ?_)
 refine skip_ (w1 := ?_) ?_ ?_ ?_ ?_
 rotate_left
 ·rfl
 ·rfl
 ·go_simp
  rfl
 generalize ((w0.setCell ⟨g, i.toNat * 3, none⟩ (.int .i64 b.f0)).setCell ⟨g, i.toNat * 3 + 1, none⟩ (.int .i64 b.f1)).setCell ⟨g, i.toNat * 3 + 2, none⟩ (.string b.f2) = w1_ at H2 Z HB2 HK2 ⊢
 obtain ⟨z0, z1, z2, z3, z4, z5⟩ := Z.out
 refine hK.out _ _ ?_
 clear hK K
 refine pure_ (i := 14) (N := some 19) (v := ?_) (a' := ?_) #[true, true, true, true, true, true, true, true, true, true, true, true, true, true, true, false] rfl rfl (by kernel_rfl) (fun _ _ _ h => h) (Or.inl ⟨by rfl, ?_⟩) ?_ ?_
 rotate_left
 ·intro w'
  go_simp
  with_reducible rfl
 rotate_left
 ·simp only [Act.put, List.setIfInBounds_toArray, List.set_cons_zero, List.set_cons_succ, i64_w, i32_w]
  rfl
 refine last_ (i := 15) (N := none) #[true, true, true, true, true, true, true, true, true, true, true, true, true, true, true, true] rfl rfl (by kernel_rfl) (by decide) (fun K hK => ?_)
 refine skip_ (w1 := ?_) ?_ ?_ ?_ ?_
 rotate_left
 ·rfl
 ·rfl
 ·go_simp
  rfl
 refine hK.out _ _ ?_
 clear hK K
 refine done_ (by kernel_rfl) ?_
 go_wp2_with fail
 go_returns
 exact ⟨rfl, H2.out, HB2.out, HK2.out⟩
def swapE (xs : List S29) (i j : Int) : List S29 := (xs.set i.toNat (rd_T29 xs j)).set j.toNat (rd_T29 xs i)
def upF : Nat → List S29 → Int → List S29
 | 0, xs, _ => xs
 | d + 1, xs, j => if Int.tdiv (j - 1) 2 = j then xs else if ltE (rd_T29 xs j) (rd_T29 xs (Int.tdiv (j - 1) 2)) = true then upF d (swapE xs (Int.tdiv (j - 1) 2) j) (Int.tdiv (j - 1) 2) else xs
theorem tdiv2 {j : Int} (h : 0 ≤ j) : 0 ≤ Int.tdiv (j - 1) 2 ∧ Int.tdiv (j - 1) 2 ≤ j ∧ (Int.tdiv (j - 1) 2 = j → j = 0) ∧ (Int.tdiv (j - 1) 2 ≠ j → Int.tdiv (j - 1) 2 < j) := by
 by_cases h0 : j = 0
 ·subst h0; decide
 ·rw [Int.tdiv_eq_ediv_of_nonneg (by omega)]; omega
theorem swapE_len (xs : List S29) (i j : Int) : (swapE xs i j).length = xs.length := by simp [swapE]
set_option maxHeartbeats 4000000 in
set_option maxRecDepth 100000 in
theorem up_c (base : Nat) (ok : Nat → Prop) (gq g n c d0 : Nat) (xs : List S29) (j0 : Int) (w : World) (hb : w.heap[gq]? = some (.cells #[.slice (some ⟨g, 0, none⟩) n c] 27 (0, 0))) (hr : Kd.R k29 29 w base ok (.slice (some ⟨g, 0, none⟩) n c) xs) (j00 : 0 ≤ j0) (jl0 : j0 < n) (hd0 : j0 < d0) :
  Calls Try.prog 24 #[.iface 48 (.pointer (some ⟨gq, 0, none⟩)), .int .i64 j0] w fun e w' => e = .returned (.tuple #[]) ∧ Kd.R k29 29 w' base ok (.slice (some ⟨g, 0, none⟩) n c) (upF d0 xs j0) ∧ Below base w w' ∧ Kept w w' (fun k => k = g) := by
 have hne : gq ≠ g := fun e => Kd.R_ne hr hb (by decide) (by rw [e]; rfl)
 have hbg : base ≤ g := (Kd.R_bound hr).1 g rfl |>.2.1
 have hsz : n ≤ 9223372036854775807 := by
  have := (Kd.R_reads' hr).2.2.2.1
  rw [← (Kd.R_reads' hr).1] at this
  exact this
 have BK := Aside0.mk hb
 have HR := Aside0.mk hr
 have NE := Aside0.mk hne
 have BG := Aside0.mk hbg
 clear hb hr hne hbg
 go_enter Try.func24, Try.ntmps24
 go_wp2_with fail
 go_loopw [1] (fun jv wr => ∃ (j : Int) (ys : List S29) (d : Nat), jv = .int .i64 j ∧ 0 ≤ j ∧ j < n ∧ j < d ∧ Aside0 (Kd.R k29 29 wr base ok (.slice (some ⟨g, 0, none⟩) n c) ys) ∧ Aside0 (Below base w wr) ∧ Aside0 (Kept w wr (fun k => k = g)) ∧ Aside0 (upF d ys j = upF d0 xs j0)) (fun jv _ => (intOf jv).toNat)
 case atStart => exact ⟨j0, xs, d0, rfl, j00, jl0, hd0, HR, ⟨Below.refl _ _⟩, ⟨Kept.refl _ _⟩, ⟨rfl⟩⟩
 case round =>
  clear HR j00 jl0 hd0
  obtain ⟨j, ys, d, rfl, hj0, hjl, hjd, HR, HB, HK, HU⟩ := hrel
  obtain ⟨d, rfl⟩ : ∃ m, d = m + 1 := ⟨d - 1, by omega⟩
  have B1 := Aside0.mk (blk_kept BK.out HK.out NE.out)
  have c0 : wr.cell? ⟨gq, 0, none⟩ = some (.slice (some ⟨g, 0, none⟩) n c) := (blk_cell B1.out 0).trans rfl
  obtain ⟨q1, q2, q3, q4⟩ := tdiv2 hj0
  have hup := HU.out
  simp only [upF] at hup
  obtain ⟨i, hi⟩ : ∃ i, Int.tdiv (j - 1) 2 = i := ⟨_, rfl⟩
  rw [hi] at q1 q2 q3 q4 hup
  have e1 : IntKind.i64.wrap (j - 1) = j - 1 := IntWalk.i64_in _ (by omega)
  have e2 : IntKind.i64.wrap i = i := IntWalk.i64_in _ (by omega)
  clear HU
  by_cases hij : i = j
  ·rw [if_pos hij] at hup
   have HU := Aside0.mk hup
   have bij : (i == j) = true := beq_iff_eq.mpr hij
   clear hij q3 q4 hup
   go_wp2_with fail
   go_returns
   exact ⟨rfl, by rw [← HU.out]; exact HR.out, HB.out, HK.out⟩
  ·rw [if_neg hij] at hup
   have bij : (i == j) = false := by simpa using hij
   have hlt := q4 hij
   clear hij q3 q4
   have HC := Aside0.mk (show Kd.C k29 wr (some ⟨g, 0, none⟩) n ys from by have h := (Kd.R_reads' HR.out).2.2; rwa [← (Kd.R_reads' HR.out).1] at h)
   have HUP := Aside0.mk hup
   have hm := mLess gq wr _ _ _ c0
   clear hup
   go_wp2_with fail
   refine (less_c (some ⟨g, 0, none⟩) n c ys j i _ HC.out hj0 hjl q1 (by omega)).mono ?_
   rintro e w1 ⟨rfl, hb1⟩
   have hup := HUP.out
   have HR1 := Aside0.mk (Kd.R_below HR.out hb1)
   have HB1 := Aside0.mk (HB.out.trans (hb1.mono (Nat.le_trans (Nat.le_of_lt (Nat.lt_of_le_of_lt BG.out ((Kd.R_bound HR.out).1 g rfl).2.2.1)) (Nat.le_refl _))))
   have HK1 := Aside0.mk (HK.out.below hb1)
   clear hb1 HUP HC c0 B1 hm
   by_cases hl : ltE (rd_T29 ys j) (rd_T29 ys i) = true
   ·rw [if_pos hl] at hup
    have HUP := Aside0.mk hup
    have B1 := Aside0.mk (blk_kept BK.out HK1.out NE.out)
    have c0 : w1.cell? ⟨gq, 0, none⟩ = some (.slice (some ⟨g, 0, none⟩) n c) := (blk_cell B1.out 0).trans rfl
    have hm := mSwap gq w1 _ _ _ c0
    clear hup HR HB HK
    go_wp2_with fail
    refine (swap_c base ok g n c ys i j _ HR1.out q1 (by omega) hj0 hjl BG.out).mono ?_
    rintro e w2 ⟨rfl, hr2, hb2, hk2⟩
    have HR2 := Aside0.mk hr2
    have HB2 := Aside0.mk (HB1.out.trans hb2)
    have HK2 := Aside0.mk (HK1.out.then_ hk2 (fun k hk => .inl hk))
    clear hr2 hb2 hk2 HR1 HB1 HK1 c0 B1 hm
    go_wp2_with fail
    go_roundw
    case rel => exact ⟨i, swapE ys i j, d, rfl, q1, by omega, by omega, HR2, HB2, HK2, HUP⟩
    case measure => simp [intOf]; omega
   ·rw [if_neg hl] at hup
    have hl2 : ltE (rd_T29 ys j) (rd_T29 ys i) = false := by simpa using hl
    have HUP := Aside0.mk hup
    clear hup hl HR HB HK
    go_wp2_with fail
    go_returns
    exact ⟨rfl, by rw [← HUP.out]; exact HR1.out, HB1.out, HK1.out⟩
def childE (xs : List S29) (m i : Int) : Int := if 2 * i + 2 < m ∧ ltE (rd_T29 xs (2 * i + 2)) (rd_T29 xs (2 * i + 1)) = true then 2 * i + 2 else 2 * i + 1
def downF : Nat → List S29 → Int → Int → List S29
 | 0, xs, _, _ => xs
 | d + 1, xs, m, i => if m ≤ 2 * i + 1 then xs else if ltE (rd_T29 xs (childE xs m i)) (rd_T29 xs i) = true then downF d (swapE xs i (childE xs m i)) m (childE xs m i) else xs
set_option maxHeartbeats 4000000 in
set_option maxRecDepth 100000 in
theorem down_c (base : Nat) (ok : Nat → Prop) (gq g n c d0 : Nat) (xs : List S29) (i0 m : Int) (w : World) (hb : w.heap[gq]? = some (.cells #[.slice (some ⟨g, 0, none⟩) n c] 27 (0, 0))) (hr : Kd.R k29 29 w base ok (.slice (some ⟨g, 0, none⟩) n c) xs) (i00 : 0 ≤ i0) (il0 : i0 < n) (hm : m ≤ n) (hn : n ≤ 1000000) (hd0 : m ≤ i0 + d0) :
  Calls Try.prog 25 #[.iface 48 (.pointer (some ⟨gq, 0, none⟩)), .int .i64 i0, .int .i64 m] w fun e w' => (∃ b, e = .returned (.bool b)) ∧ Kd.R k29 29 w' base ok (.slice (some ⟨g, 0, none⟩) n c) (downF d0 xs m i0) ∧ Below base w w' ∧ Kept w w' (fun k => k = g) := by
 have hne : gq ≠ g := fun e => Kd.R_ne hr hb (by decide) (by rw [e]; rfl)
 have hbg : base ≤ g := (Kd.R_bound hr).1 g rfl |>.2.1
 have BK := Aside0.mk hb
 have HR := Aside0.mk hr
 have NE := Aside0.mk hne
 have BG := Aside0.mk hbg
 clear hb hr hne hbg
 go_enter Try.func25, Try.ntmps25
 go_wp2_with fail
 go_loopw [7] (fun iv wr => ∃ (i : Int) (ys : List S29) (d : Nat), iv = .int .i64 i ∧ 0 ≤ i ∧ i < n ∧ m ≤ i + d ∧ Aside0 (Kd.R k29 29 wr base ok (.slice (some ⟨g, 0, none⟩) n c) ys) ∧ Aside0 (Below base w wr) ∧ Aside0 (Kept w wr (fun k => k = g)) ∧ Aside0 (downF d ys m i = downF d0 xs m i0)) (fun iv _ => n - (intOf iv).toNat)
 case atStart => exact ⟨i0, xs, d0, rfl, i00, il0, hd0, HR, ⟨Below.refl _ _⟩, ⟨Kept.refl _ _⟩, ⟨rfl⟩⟩
 case round =>
  clear HR i00 il0 hd0
  obtain ⟨i, ys, d, rfl, hi0, hil, hid, HR, HB, HK, HU⟩ := hrel
  have e1 : IntKind.i64.wrap (2 * i) = 2 * i := IntWalk.i64_in _ (by omega)
  have e2 : IntKind.i64.wrap (2 * i + 1) = 2 * i + 1 := IntWalk.i64_in _ (by omega)
  have e3 : IntKind.i64.wrap (2 * i + 1 + 1) = 2 * i + 2 := (IntWalk.i64_in _ (by omega)).trans (by omega)
  by_cases hj1 : m ≤ 2 * i + 1
  ·have b1 : decide (m ≤ 2 * i + 1) = true := decide_eq_true hj1
   have HU2 := Aside0.mk (show ys = downF d0 xs m i0 from by rw [← HU.out]; cases d with | zero => rfl | succ d => simp only [downF]; rw [if_pos hj1])
   clear hj1 HU
   go_wp2_with fail
   go_returns
   exact ⟨⟨_, rfl⟩, by rw [← HU2.out]; exact HR.out, HB.out, HK.out⟩
  ·have b1 : decide (m ≤ 2 * i + 1) = false := decide_eq_false hj1
   have b2 : decide (2 * i + 1 < 0) = false := decide_eq_false (by omega)
   obtain ⟨d, rfl⟩ : ∃ q, d = q + 1 := ⟨d - 1, by omega⟩
   have hup := HU.out
   simp only [downF] at hup
   rw [if_neg hj1] at hup
   have B1 := Aside0.mk (blk_kept BK.out HK.out NE.out)
   have c0 : wr.cell? ⟨gq, 0, none⟩ = some (.slice (some ⟨g, 0, none⟩) n c) := (blk_cell B1.out 0).trans rfl
   have HC := Aside0.mk (show Kd.C k29 wr (some ⟨g, 0, none⟩) n ys from by have h := (Kd.R_reads' HR.out).2.2; rwa [← (Kd.R_reads' HR.out).1] at h)
   have hmL := mLess gq wr _ _ _ c0
   obtain ⟨j, hj⟩ : ∃ j, childE ys m i = j := ⟨_, rfl⟩
   have HUP := Aside0.mk (by rw [hj] at hup; exact hup : (if ltE (rd_T29 ys j) (rd_T29 ys i) = true then downF d (swapE ys i j) m j else ys) = downF d0 xs m i0)
   clear HU hup
   have hsz : base ≤ wr.heap.size := Nat.le_of_lt (Nat.lt_of_le_of_lt BG.out ((Kd.R_bound HR.out).1 g rfl).2.2.1)
   have HSZ := Aside0.mk hsz
   have HJ := Aside0.mk hj
   have HJ1 := Aside0.mk hj1
   clear hsz hj hj1
   by_cases hj2 : 2 * i + 2 < m
   ·have b3 : decide (2 * i + 2 < m) = true := decide_eq_true hj2
    have hh := HJ1.out
    clear HJ1
    go_wp2_with fail
    refine (less_c (some ⟨g, 0, none⟩) n c ys (2 * i + 2) (2 * i + 1) _ HC.out (by omega) (by omega) (by omega) (by omega)).mono ?_
    rintro e w1 ⟨rfl, hb1⟩
    have HR1 := Aside0.mk (Kd.R_below HR.out hb1)
    have HB1 := Aside0.mk (HB.out.trans (hb1.mono HSZ.out))
    have HK1 := Aside0.mk (HK.out.below hb1)
    have HC1 := Aside0.mk (Kd.C_below HC.out hb1)
    have HSZ1 := Aside0.mk (Nat.le_trans HSZ.out hb1.size)
    have B1 := Aside0.mk (blk_kept BK.out HK1.out NE.out)
    have c0 : w1.cell? ⟨gq, 0, none⟩ = some (.slice (some ⟨g, 0, none⟩) n c) := (blk_cell B1.out 0).trans rfl
    have hmL := mLess gq w1 _ _ _ c0
    have hj := HJ.out
    unfold childE at hj
    clear hb1 HR HB HK HC HSZ HJ
    by_cases hl : ltE (rd_T29 ys (2 * i + 2)) (rd_T29 ys (2 * i + 1)) = true
    ·rw [if_pos ⟨hj2, hl⟩] at hj
     subst hj
     clear b3
     go_wp2_with fail
     refine (less_c (some ⟨g, 0, none⟩) n c ys (2 * i + 2) i _ HC1.out (by omega) (by omega) hi0 hil).mono ?_
     rintro e w2 ⟨rfl, hb2⟩
     have HR2 := Aside0.mk (Kd.R_below HR1.out hb2)
     have HB2 := Aside0.mk (HB1.out.trans (hb2.mono HSZ1.out))
     have HK2 := Aside0.mk (HK1.out.below hb2)
     have hup := HUP.out
     clear hb2 HR1 HB1 HK1 HC1 HSZ1 HUP hmL c0
     have B2 := Aside0.mk (blk_kept BK.out HK2.out NE.out)
     have c0 : w2.cell? ⟨gq, 0, none⟩ = some (.slice (some ⟨g, 0, none⟩) n c) := (blk_cell B2.out 0).trans rfl
     have hmS := mSwap gq w2 _ _ _ c0
     by_cases hk : ltE (rd_T29 ys (2 * i + 2)) (rd_T29 ys i) = true
     ·rw [if_pos hk] at hup
      have HUP := Aside0.mk hup
      clear hup
      go_wp2_with fail
      refine (swap_c base ok g n c ys i (2 * i + 2) _ HR2.out hi0 hil (by omega) (by omega) BG.out).mono ?_
      rintro e w3 ⟨rfl, hr3, hb3, hk3⟩
      have HR3 := Aside0.mk hr3
      have HB3 := Aside0.mk (HB2.out.trans hb3)
      have HK3 := Aside0.mk (HK2.out.then_ hk3 (fun k hk => .inl hk))
      clear hr3 hb3 hk3 HR2 HB2 HK2 c0 B2 hmS
      go_wp2_with fail
      go_roundw
      case rel => exact ⟨2 * i + 2, swapE ys i (2 * i + 2), d, rfl, by omega, by omega, by omega, HR3, HB3, HK3, HUP⟩
      case measure => simp [intOf]; omega
     ·rw [if_neg hk] at hup
      have hk2 : ltE (rd_T29 ys (2 * i + 2)) (rd_T29 ys i) = false := by simpa using hk
      have HUP := Aside0.mk hup
      clear hup hk
      go_wp2_with fail
      go_returns
      exact ⟨⟨_, rfl⟩, by rw [← HUP.out]; exact HR2.out, HB2.out, HK2.out⟩
    ·rw [if_neg (fun h => hl h.2)] at hj
     have hl' : ltE (rd_T29 ys (2 * i + 2)) (rd_T29 ys (2 * i + 1)) = false := by simpa using hl
     subst hj
     clear hl b3
     go_wp2_with fail
     refine (less_c (some ⟨g, 0, none⟩) n c ys (2 * i + 1) i _ HC1.out (by omega) (by omega) hi0 hil).mono ?_
     rintro e w2 ⟨rfl, hb2⟩
     have HR2 := Aside0.mk (Kd.R_below HR1.out hb2)
     have HB2 := Aside0.mk (HB1.out.trans (hb2.mono HSZ1.out))
     have HK2 := Aside0.mk (HK1.out.below hb2)
     have hup := HUP.out
     clear hb2 HR1 HB1 HK1 HC1 HSZ1 HUP hmL c0
     have B2 := Aside0.mk (blk_kept BK.out HK2.out NE.out)
     have c0 : w2.cell? ⟨gq, 0, none⟩ = some (.slice (some ⟨g, 0, none⟩) n c) := (blk_cell B2.out 0).trans rfl
     have hmS := mSwap gq w2 _ _ _ c0
     by_cases hk : ltE (rd_T29 ys (2 * i + 1)) (rd_T29 ys i) = true
     ·rw [if_pos hk] at hup
      have HUP := Aside0.mk hup
      clear hup
      go_wp2_with fail
      refine (swap_c base ok g n c ys i (2 * i + 1) _ HR2.out hi0 hil (by omega) (by omega) BG.out).mono ?_
      rintro e w3 ⟨rfl, hr3, hb3, hk3⟩
      have HR3 := Aside0.mk hr3
      have HB3 := Aside0.mk (HB2.out.trans hb3)
      have HK3 := Aside0.mk (HK2.out.then_ hk3 (fun k hk => .inl hk))
      clear hr3 hb3 hk3 HR2 HB2 HK2 c0 B2 hmS
      go_wp2_with fail
      go_roundw
      case rel => exact ⟨2 * i + 1, swapE ys i (2 * i + 1), d, rfl, by omega, by omega, by omega, HR3, HB3, HK3, HUP⟩
      case measure => simp [intOf]; omega
     ·rw [if_neg hk] at hup
      have hk2 : ltE (rd_T29 ys (2 * i + 1)) (rd_T29 ys i) = false := by simpa using hk
      have HUP := Aside0.mk hup
      clear hup hk
      go_wp2_with fail
      go_returns
      exact ⟨⟨_, rfl⟩, by rw [← HUP.out]; exact HR2.out, HB2.out, HK2.out⟩
   ·have b3 : decide (2 * i + 2 < m) = false := decide_eq_false hj2
    have hj := HJ.out
    unfold childE at hj
    rw [if_neg (fun h => hj2 h.1)] at hj
    subst hj
    have hh := HJ1.out
    have HR1 := HR
    have HB1 := HB
    have HK1 := HK
    have HC1 := HC
    have HSZ1 := HSZ
    clear HR HB HK HC HSZ HJ HJ1 hj2
    go_wp2_with fail
    refine (less_c (some ⟨g, 0, none⟩) n c ys (2 * i + 1) i _ HC1.out (by omega) (by omega) hi0 hil).mono ?_
    rintro e w2 ⟨rfl, hb2⟩
    have HR2 := Aside0.mk (Kd.R_below HR1.out hb2)
    have HB2 := Aside0.mk (HB1.out.trans (hb2.mono HSZ1.out))
    have HK2 := Aside0.mk (HK1.out.below hb2)
    have hup := HUP.out
    clear hb2 HR1 HB1 HK1 HC1 HSZ1 HUP hmL c0
    have B2 := Aside0.mk (blk_kept BK.out HK2.out NE.out)
    have c0 : w2.cell? ⟨gq, 0, none⟩ = some (.slice (some ⟨g, 0, none⟩) n c) := (blk_cell B2.out 0).trans rfl
    have hmS := mSwap gq w2 _ _ _ c0
    by_cases hk : ltE (rd_T29 ys (2 * i + 1)) (rd_T29 ys i) = true
    ·rw [if_pos hk] at hup
     have HUP := Aside0.mk hup
     clear hup
     go_wp2_with fail
     refine (swap_c base ok g n c ys i (2 * i + 1) _ HR2.out hi0 hil (by omega) (by omega) BG.out).mono ?_
     rintro e w3 ⟨rfl, hr3, hb3, hk3⟩
     have HR3 := Aside0.mk hr3
     have HB3 := Aside0.mk (HB2.out.trans hb3)
     have HK3 := Aside0.mk (HK2.out.then_ hk3 (fun k hk => .inl hk))
     clear hr3 hb3 hk3 HR2 HB2 HK2 c0 B2 hmS
     go_wp2_with fail
     go_roundw
     case rel => exact ⟨2 * i + 1, swapE ys i (2 * i + 1), d, rfl, by omega, by omega, by omega, HR3, HB3, HK3, HUP⟩
     case measure => simp [intOf]; omega
    ·rw [if_neg hk] at hup
     have hk2 : ltE (rd_T29 ys (2 * i + 1)) (rd_T29 ys i) = false := by simpa using hk
     have HUP := Aside0.mk hup
     clear hup hk
     go_wp2_with fail
     go_returns
     exact ⟨⟨_, rfl⟩, by rw [← HUP.out]; exact HR2.out, HB2.out, HK2.out⟩
/-- The queue at block gq holds the edits xs, in the heap's order; its blocks are P's. -/
def Qu (P : Nat → Prop) (base : Nat) (w : World) (gq : Nat) (xs : List S29) : Prop :=
 base ≤ gq ∧ P gq ∧ ∃ v, w.heap[gq]? = some (.cells #[v] 27 (0, 0)) ∧ Kd.R k29 29 w base P v xs
theorem Qu.lt {P : Nat → Prop} {base gq : Nat} {w : World} {xs : List S29} (h : Qu P base w gq xs) : gq < w.heap.size := by
 obtain ⟨_, _, v, hb, _⟩ := h
 exact blk_lt hb
theorem Qu.mono {P P' : Nat → Prop} {base gq : Nat} {w : World} {xs : List S29} (h : Qu P base w gq xs) (hp : ∀ k, P k → P' k) : Qu P' base w gq xs := by
 obtain ⟨h1, h2, v, hb, hr⟩ := h
 exact ⟨h1, hp _ h2, v, hb, Kd.R_mono hr hp⟩
theorem Qu.kept {P S : Nat → Prop} {base gq : Nat} {w w2 : World} {xs : List S29} (h : Qu P base w gq xs) (hk : Kept w w2 S) (hne : ∀ k, P k → ¬ S k) : Qu P base w2 gq xs := by
 obtain ⟨h1, h2, v, hb, hr⟩ := h
 exact ⟨h1, h2, v, blk_kept hb hk (hne gq h2), Kd.R_kept hr hk hne⟩
theorem Qu.below {P : Nat → Prop} {base gq : Nat} {w w2 : World} {xs : List S29} (h : Qu P base w gq xs) (hb : Below w.heap.size w w2) : Qu P base w2 gq xs := h.kept (Kept.of_below hb (fun _ => False)) (fun _ _ hf => hf)
theorem Qu.bound {P : Nat → Prop} {base gq : Nat} {w : World} {xs : List S29} (h : Qu P base w gq xs) : Qu (fun k => P k ∧ k < w.heap.size) base w gq xs := by
 have hl := h.lt
 obtain ⟨h1, h2, v, hb, hr⟩ := h
 exact ⟨h1, ⟨h2, hl⟩, v, hb, Kd.R_mono (Kd.R_bound hr) (fun k hk => ⟨hk.1, hk.2.2.1⟩)⟩
theorem ta_c (v : Value) (w : World) : (Instr.typeAssert (.iface 29 v) 20 29 false).run Try.prog w = .ok v w := by kernel_rfl
set_option maxHeartbeats 4000000 in
set_option maxRecDepth 100000 in
theorem epush_c (P : Nat → Prop) (base gq : Nat) (xs : List S29) (x : S29) (w : World) (h : Qu P base w gq xs) (hbase : base ≤ w.heap.size) (hl : xs.length ≤ 1000000) :
  Calls Try.prog 53 #[.pointer (some ⟨gq, 0, none⟩), .iface 29 (vE x)] w fun e w' => e = .returned (.tuple #[]) ∧ Qu (fun k => P k ∨ w.heap.size ≤ k) base w' gq (xs ++ [x]) ∧ Below base w w' ∧ Kept w w' P := by
 obtain ⟨hg, hPg, v, hb, hr⟩ := h
 obtain ⟨A, c, rfl⟩ := Kd.R_slice hr
 have BK := Aside0.mk hb
 have HR := Aside0.mk hr
 have c0 : w.cell? ⟨gq, 0, none⟩ = some (.slice A xs.length c) := (blk_cell hb 0).trans rfl
 have o0 := blk_frozen hb 0
 clear hb hr
 have BKd := Aside0.mk (blk_drew BK.out)
 have HRd := Aside0.mk (Kd.R_drew HR.out)
 have HB := Aside0.mk (below_drew1 (Below.refl base w))
 have HK := Aside0.mk (Kept.drew (Kept.refl w P))
 have HS := Aside0.mk (Nat.le_refl w.heap.size)
 replace hbase : base ≤ w.drew.heap.size := hbase
 have hta := fun (w : World) => ta_c (vE x) w
 go_enter Try.func53, Try.ntmps53
 go_wp2_with fail
 refine start_ (n := 10) (S := fun w' => w'.cell? ⟨gq, 0, none⟩ = some (.slice A xs.length c)) (ds := [9]) #[false, false, false, false, false, false, false, false, false, false] (by kernel_rfl) rfl rfl ((blk_cell BKd.out 0).trans rfl) (fun hHeld => ?_)
 generalize hw0 : w.drew = w0 at BKd HRd HB HK hbase hHeld ⊢
 refine pure_ (i := 0) (N := some 4) (v := ?_) (a' := ?_) #[true, false, false, false, false, false, false, false, false, false] rfl rfl (by kernel_rfl) (fun _ _ _ h => h) (Or.inl ⟨by rfl, ?_⟩) ?_ ?_
 rotate_left
 ·intro w'
  go_simp
  with_reducible rfl
 rotate_left
 ·simp only [Act.put, List.setIfInBounds_toArray, List.set_cons_zero, List.set_cons_succ, i64_w, i32_w]
  rfl
 refine pure_ (i := 1) (N := some 5) (v := ?_) (a' := ?_) #[true, true, false, false, false, false, false, false, false, false] rfl rfl (by kernel_rfl) (fun _ _ _ h => h) (Or.inl ⟨by rfl, ?_⟩) ?_ ?_
 rotate_left
 ·intro w'
  go_simp
  with_reducible rfl
 rotate_left
 ·simp only [Act.put, List.setIfInBounds_toArray, List.set_cons_zero, List.set_cons_succ, i64_w, i32_w]
  rfl
 refine pure_ (i := 2) (N := some 6) (v := ?_) (a' := ?_) #[true, true, true, false, false, false, false, false, false, false] rfl rfl (by kernel_rfl) (fun _ _ _ h => h) (Or.inl ⟨by rfl, ?_⟩) ?_ ?_
 rotate_left
 ·intro w'
  go_simp
  with_reducible rfl
 rotate_left
 ·simp only [Act.put, List.setIfInBounds_toArray, List.set_cons_zero, List.set_cons_succ, i64_w, i32_w]
  rfl
 refine pure_ (i := 4) (N := some 8) (v := ?_) (a' := ?_) #[true, true, true, false, true, false, false, false, false, false] rfl rfl (by kernel_rfl) (fun _ _ _ h => h) (Or.inl ⟨by rfl, ?_⟩) ?_ ?_
 rotate_left
 ·intro w'
  go_simp
  with_reducible rfl
 rotate_left
 ·simp only [Act.put, List.setIfInBounds_toArray, List.set_cons_zero, List.set_cons_succ, i64_w, i32_w]
  rfl
 refine pure_ (i := 5) (N := some 9) (v := ?_) (a' := ?_) #[true, true, true, false, true, true, false, false, false, false] rfl rfl (by kernel_rfl) (fun _ _ _ h => h) (Or.inl ⟨by rfl, ?_⟩) ?_ ?_
 rotate_left
 ·intro w'
  go_simp
  with_reducible rfl
 rotate_left
 ·simp only [Act.put, List.setIfInBounds_toArray, List.set_cons_zero, List.set_cons_succ, i64_w, i32_w]
  rfl
 refine take_ (i := 3) (N := some 7) (v := ?_) (a' := ?_) #[true, true, true, true, true, true, false, false, false, false] rfl rfl (by kernel_rfl) (fun _ _ _ h => h) (Or.inl ⟨by rfl, ?_⟩) hHeld ?_ ?_
 rotate_left
 ·intro w' s0
  go_simp
  with_reducible rfl
 rotate_left
 ·simp only [Act.put, List.setIfInBounds_toArray, List.set_cons_zero, List.set_cons_succ, i64_w, i32_w]
  rfl
 refine one_ (i := 6) (N := some 10) #[true, true, true, true, true, true, true, false, false, false] rfl rfl (by kernel_rfl) (by decide) (fun K hK => ?_)
 refine value_ (w1 := ?_) (v := ?_) (by rfl) rfl ?_ ?_
 rotate_left 2
 ·go_simp
  constructor
  ·rfl
  ·rfl
 refine hK.out _ _ ((blk_cell (blk_alloc BKd.out _) 0).trans rfl) (fun hHeld => ?_)
 clear hK K
 refine norm_ (a' := ?_) ?_ ?_
 rotate_left
 ·show Act.put _ (some 10) _ = _
  simp only [Act.put, List.setIfInBounds_toArray, List.set_cons_zero, List.set_cons_succ, i64_w, i32_w]
  rfl
 refine one_ (i := 7) (N := some 11) #[true, true, true, true, true, true, true, true, false, false] rfl rfl (by kernel_rfl) (by decide) (fun K hK => ?_)
 refine Kd.R_append_step k29 (w0 := w0) base (by rfl) (.tmp 7) (.tmp 10) 25 29 (.agg #[.int .i64 0, .int .i64 0, .string ⟨#[]⟩]) 32 rfl Try.underlying25 infoE rfl (by decide) (by decide) (.slice A xs.length c) xs x [.int .i64 x.f0, .int .i64 x.f1, .string x.f2] (fun k => P k ∨ w0.heap.size ≤ k) (fun _ => False) rfl rfl (k29_mkM w0 base _ x) (fun _ h => h.elim) (fun k hk => .inr hk) (Kd.R_mono HRd.out (fun k hk => .inl hk)) (Below.refl base w0) hbase (by omega) ?_
 intro v1 w1 ho hb hg2 hat
 obtain ⟨A1, c1_, rfl⟩ := Kd.R_slice ho
 obtain ⟨n1, hn1⟩ : ∃ n1, (xs ++ [x]).length = n1 := ⟨_, rfl⟩
 rw [hn1] at ho ⊢
 clear hat hn1
 have HO := Aside0.mk ho
 have HB1 := Aside0.mk (HB.out.trans hb)
 have HK1 := Aside0.mk (Kept.of_grown hg2 HK.out (fun k hk => .inl (HRd.out.1 k hk)))
 have B1 := Aside0.mk (blk_grown BKd.out hg2 (Kd.R_ne HRd.out BKd.out (by decide)))
 have c1 : w1.cell? ⟨gq, 0, none⟩ = some (.slice A xs.length c) := (blk_cell B1.out 0).trans rfl
 have o1 := blk_frozen B1.out 0
 clear ho hb hg2
 refine hK.out _ _ (c1) (fun hHeld => ?_)
 clear hK K
 refine norm_ (a' := ?_) ?_ ?_
 rotate_left
 ·show Act.put _ (some 11) _ = _
  simp only [Act.put, List.setIfInBounds_toArray, List.set_cons_zero, List.set_cons_succ, i64_w, i32_w]
  rfl
 refine pure_ (i := 8) (N := some 12) (v := ?_) (a' := ?_) #[true, true, true, true, true, true, true, true, true, false] rfl rfl (by kernel_rfl) (fun _ _ _ h => h) (Or.inl ⟨by rfl, ?_⟩) ?_ ?_
 rotate_left
 ·intro w'
  go_simp
  with_reducible rfl
 rotate_left
 ·simp only [Act.put, List.setIfInBounds_toArray, List.set_cons_zero, List.set_cons_succ, i64_w, i32_w]
  rfl
 refine last_ (i := 9) (N := none) #[true, true, true, true, true, true, true, true, true, true] rfl rfl (by kernel_rfl) (by decide) (fun K hK => ?_)
 refine skip_ (w1 := ?_) ?_ ?_ ?_ ?_
 rotate_left
 ·rfl
 ·rfl
 ·go_simp
  rfl
 refine hK.out _ _ ?_
 clear hK K
 refine done_ (by kernel_rfl) ?_
 go_wp2_with fail
 go_returns
 have B2 := blk_put (cs' := #[.slice A1 n1 c1_]) B1.out 0 (.slice A1 n1 c1_) rfl
 subst hw0
 exact ⟨rfl, ⟨hg, .inl hPg, _, B2, Kd.R_set HO.out B1.out (by decide) 0 _⟩, HB1.out.setCell (p := ⟨gq, 0, none⟩) hg _, Kept.setCell HK1.out (p := ⟨gq, 0, none⟩) (.inl hPg) _⟩
set_option maxHeartbeats 4000000 in
set_option maxRecDepth 100000 in
theorem elen_c (A : Option Addr) (n c : Nat) (w : World) : Calls Try.prog 43 #[.slice A n c] w fun e w' => e = .returned (.int .i64 (n : Int)) ∧ w = w' := by
 go_enter Try.func43, Try.ntmps43
 go_wp2_with fail
 go_ret
 exact ⟨rfl, rfl⟩
def pushF (xs : List S29) (x : S29) : List S29 := upF (xs.length + 1) (xs ++ [x]) (xs.length : Int)
set_option maxHeartbeats 4000000 in
set_option maxRecDepth 100000 in
theorem hpush_c (P : Nat → Prop) (base gq : Nat) (xs : List S29) (x : S29) (w : World) (h : Qu P base w gq xs) (hbase : base ≤ w.heap.size) (hl : xs.length ≤ 1000000) :
  Calls Try.prog 18 #[.iface 48 (.pointer (some ⟨gq, 0, none⟩)), .iface 29 (vE x)] w fun e w' => e = .returned (.tuple #[]) ∧ Qu (fun k => P k ∨ w.heap.size ≤ k) base w' gq (pushF xs x) ∧ Below base w w' ∧ Kept w w' P := by
 have HQ := Aside0.mk h
 have hm := mPush gq w
 clear h
 go_enter Try.func18, Try.ntmps18
 go_wp2_with fail
 refine (epush_c P base gq xs x w HQ.out hbase hl).mono ?_
 rintro e w1 ⟨rfl, ⟨hg, hPg, v, hb, hr⟩, hb1, hk1⟩
 obtain ⟨g, c, rfl, _, _, _, _⟩ := Kd.R_form hr (by simp)
 obtain ⟨n, hn⟩ : ∃ n, (xs ++ [x]).length = n := ⟨_, rfl⟩
 have hn2 : n = xs.length + 1 := by rw [← hn]; simp
 rw [hn] at hb hr
 have BK := Aside0.mk hb
 have HR := Aside0.mk hr
 have HB1 := Aside0.mk hb1
 have HK1 := Aside0.mk hk1
 have c0 : w1.cell? ⟨gq, 0, none⟩ = some (.slice (some ⟨g, 0, none⟩) n c) := (blk_cell hb 0).trans rfl
 have hm2 := mLen gq w1 _ _ _ c0
 have e1 : IntKind.i64.wrap ((n : Int) - 1) = (xs.length : Int) := (IntWalk.i64_in _ (by omega)).trans (by omega)
 have HN := Aside0.mk hn2
 clear hb hr hb1 hk1 hm hn hn2
 go_wp2_with fail
 refine (elen_c (some ⟨g, 0, none⟩) n c _).mono ?_
 rintro e w1' ⟨rfl, rfl⟩
 go_wp2_with fail
 refine (up_c base _ gq g n c (xs.length + 1) (xs ++ [x]) (xs.length : Int) _ BK.out HR.out (by omega) (by have := HN.out; omega) (by omega)).mono ?_
 rintro e w2 ⟨rfl, hr2, hb2, hk2⟩
 have hne : gq ≠ g := fun e => Kd.R_ne HR.out BK.out (by decide) (by rw [e]; rfl)
 have B2 := Aside0.mk (blk_kept BK.out hk2 hne)
 have HR2 := Aside0.mk hr2
 have HB2 := Aside0.mk (HB1.out.trans hb2)
 have HK2 := Aside0.mk (HK1.out.then_ hk2 (fun k hk => by subst hk; exact HR.out.1 _ rfl))
 clear hr2 hb2 hk2 hne c0 hm2
 go_wp2_with fail
 go_returns
 exact ⟨rfl, ⟨hg, hPg, _, B2.out, HR2.out⟩, HB2.out, HK2.out⟩
set_option maxHeartbeats 4000000 in
set_option maxRecDepth 100000 in
theorem epop_c (P : Nat → Prop) (base gq : Nat) (ys : List S29) (x : S29) (w : World) (h : Qu P base w gq (ys ++ [x])) (hbase : base ≤ w.heap.size) (hl : ys.length ≤ 1000000) :
  Calls Try.prog 52 #[.pointer (some ⟨gq, 0, none⟩)] w fun e w' => e = .returned (.iface 29 (vE x)) ∧ Qu P base w' gq ys ∧ Below base w w' ∧ Kept w w' P := by
 obtain ⟨hg, hPg, v, hb, hr⟩ := h
 obtain ⟨g, c, rfl, _, _, _, _⟩ := Kd.R_form hr (by simp)
 obtain ⟨n, hn⟩ : ∃ n, (ys ++ [x]).length = n := ⟨_, rfl⟩
 have hn2 : n = ys.length + 1 := by rw [← hn]; simp
 rw [hn] at hb hr
 have hC := (Kd.R_reads' hr).2.2
 rw [← (Kd.R_reads' hr).1] at hC
 have hcap := (Kd.R_reads' hr).2.1
 obtain ⟨x0, x1, x2, _, _, _⟩ := row_E hr (ys.length : Int) (by omega) (by omega)
 have hx : rd_T29 (ys ++ [x]) (ys.length : Int) = x := by unfold rd_T29; simp
 rw [hx, Int.toNat_natCast] at x0 x1 x2
 have BK := Aside0.mk hb
 have HR := Aside0.mk hr
 have c0 : w.cell? ⟨gq, 0, none⟩ = some (.slice (some ⟨g, 0, none⟩) n c) := (blk_cell hb 0).trans rfl
 have e1 : IntKind.i64.wrap ((n : Int) - 1) = (ys.length : Int) := (IntWalk.i64_in _ (by omega)).trans (by omega)
 have p1 : ((ys.length : Int) < (n : Int)) = True := eq_true (by omega)
 have p2 : (0 ≤ (ys.length : Int)) = True := eq_true (by omega)
 have p3 : ((ys.length : Int) ≤ (c : Int)) = True := eq_true (by omega)
 have HN := Aside0.mk hn
 have HN2 := Aside0.mk hn2
 have az : (⟨g, 0, none⟩ : Addr).add (ys.length * 3) = ⟨g, ys.length * 3, none⟩ := add_zero3 g _
 clear hb hr hC hcap hx hn hn2
 go_enter Try.func52, Try.ntmps52
 go_wp2_with (first | ((with_reducible refine gate_dst (N := 4) rfl ?_); (try (refine gate_guard (by rfl) ?_; dsimp only)); refine box_event ?hg (N := 4) ?hd (cs := #[.int .i64 0, .int .i64 0, .string ⟨#[]⟩]) (t := 29) ?hr ?_; (case hd => rfl); (case hg => rfl); (case hr => first | (go_simp; done) | (go_simp; rfl)); intro gb hgb w12 hbox hb12; have HBL := Aside0.mk hb12; have BX := Aside0.mk hbox; have GE := Aside0.mk (show w.heap.size ≤ gb from by rw [hgb]; exact Nat.le_refl _); clear hb12 hbox hgb; have z0 : w12.cell? ⟨gb, 0, none⟩ = some (.int .i64 0) := (blk_cell BX.out 0).trans rfl; have z1 : w12.cell? ⟨gb, 1, none⟩ = some (.int .i64 0) := (blk_cell BX.out 1).trans rfl; have z2 : w12.cell? ⟨gb, 2, none⟩ = some (.string ⟨#[]⟩) := (blk_cell BX.out 2).trans rfl; have f0 := blk_frozen BX.out 0; have f1 := blk_frozen BX.out 1; have f2 := blk_frozen BX.out 2) | ((with_reducible refine gate_store (t := 29) (p := 4) rfl ?_); refine store_event (t := 29) (p := 4) (v := ?vo_w14_4) (w1 := (((w12.setCell ⟨gb, 0, none⟩ (.int .i64 x.f0)).setCell ⟨gb, 1, none⟩ (.int .i64 x.f1)).setCell ⟨gb, 2, none⟩ (.string x.f2))) ?hg ?ho ?hn ?hr ?_; (case ho => rfl); (case hg => rfl); (case hn => rfl); (case hr => first | (go_simp; done) | (go_simp; rfl)); intro w14 hw; have BX2 := Aside0.mk (show w14.heap[gb]? = some (.cells #[.int .i64 x.f0, .int .i64 x.f1, .string x.f2] 29 (0, 0)) from by rw [hw]; exact blk_put (cs := #[.int .i64 x.f0, .int .i64 x.f1, .string ⟨#[]⟩]) (blk_put (cs := #[.int .i64 x.f0, .int .i64 0, .string ⟨#[]⟩]) (blk_put BX.out 0 (.int .i64 x.f0) rfl) 1 (.int .i64 x.f1) rfl) 2 (.string x.f2) rfl); have HBL2 := Aside0.mk (show Below w.heap.size w w14 from by rw [hw]; exact below_set3 HBL.out GE.out 0 1 2 _ _ _); clear hw z0 z1 z2 f0 f1 f2 BX HBL; have B2 := Aside0.mk (blk_below BK.out HBL2.out); have c1 : w14.cell? ⟨gq, 0, none⟩ = some (.slice (some ⟨g, 0, none⟩) n c) := (blk_cell B2.out 0).trans rfl; have o1 := blk_frozen B2.out 0; have hgg : gb ≠ gq := (fun e => by have h1 := BX2.out; have h2 := B2.out; rw [e, h2] at h1; injection h1 with h1; injection h1 with _ h1; exact absurd h1 (by decide)); have ng1 : (gb = gq) = False := eq_false hgg; have ng2 : (gq = gb) = False := eq_false (fun e => hgg e.symm); have HGG := Aside0.mk hgg; clear hgg; have y0 : w14.cell? ⟨gb, 0, none⟩ = some (.int .i64 x.f0) := (blk_cell BX2.out 0).trans rfl; have y1 : w14.cell? ⟨gb, 1, none⟩ = some (.int .i64 x.f1) := (blk_cell BX2.out 1).trans rfl; have y2 : w14.cell? ⟨gb, 2, none⟩ = some (.string x.f2) := (blk_cell BX2.out 2).trans rfl))
 go_ret
 have B3 := blk_put (cs' := #[.slice (some ⟨g, 0, none⟩) ys.length c]) B2.out 0 (.slice (some ⟨g, 0, none⟩) ys.length c) rfl
 have hr3 := Kd.R_set (Kd.R_below HR.out HBL2.out) B2.out (by decide) 0 (.slice (some ⟨g, 0, none⟩) ys.length c)
 have ht := Kd.R_take hr3 (m := ys.length) (by simp)
 rw [List.take_left'  rfl] at ht
 exact ⟨rfl, ⟨hg, hPg, _, B3, ht⟩, (HBL2.out.mono hbase).setCell (p := ⟨gq, 0, none⟩) hg _, Kept.setCell (Kept.of_below HBL2.out P) (p := ⟨gq, 0, none⟩) (.inl hPg) _⟩
/-- What heap.Pop leaves in the row: its last one is told, and cut off. -/
def popZ (xs : List S29) : List S29 := downF xs.length (swapE xs 0 ((xs.length : Int) - 1)) ((xs.length : Int) - 1) 0
theorem downF_len (d : Nat) : ∀ (xs : List S29) (m i : Int), (downF d xs m i).length = xs.length := by
 induction d with
 | zero => intro xs m i; rfl
 | succ d ih =>
  intro xs m i
  simp only [downF]
  split
  ·rfl
  ·split
   ·rw [ih, swapE_len]
   ·rfl
set_option maxHeartbeats 4000000 in
set_option maxRecDepth 100000 in
theorem hpop_c (P : Nat → Prop) (base gq : Nat) (xs ys : List S29) (x : S29) (w : World) (h : Qu P base w gq xs) (hbase : base ≤ w.heap.size) (hl : xs.length ≤ 1000000) (hp : 0 < xs.length) (hz : popZ xs = ys ++ [x]) :
  Calls Try.prog 20 #[.iface 48 (.pointer (some ⟨gq, 0, none⟩))] w fun e w' => e = .returned (.iface 29 (vE x)) ∧ Qu P base w' gq ys ∧ Below base w w' ∧ Kept w w' P := by
 obtain ⟨hg, hPg, v, hb, hr⟩ := h
 obtain ⟨g, c, rfl, hgb, hgl, _, _⟩ := Kd.R_form hr hp
 obtain ⟨n, hn⟩ : ∃ n, xs.length = n := ⟨_, rfl⟩
 rw [hn] at hb hr hl hp
 have hyl : ys.length + 1 = n := by
  have h1 := congrArg List.length hz
  unfold popZ at h1
  rw [downF_len, swapE_len, List.length_append, List.length_singleton] at h1
  omega
 have BK := Aside0.mk hb
 have HR := Aside0.mk hr
 have HZ := Aside0.mk (show downF n (swapE xs 0 ((n : Int) - 1)) ((n : Int) - 1) 0 = ys ++ [x] from by rw [← hn]; exact hz)
 have HPg := Aside0.mk (hr.1 g rfl)
 have c0 : w.cell? ⟨gq, 0, none⟩ = some (.slice (some ⟨g, 0, none⟩) n c) := (blk_cell hb 0).trans rfl
 have hm := mLen gq w _ _ _ c0
 have hm2 := mSwap gq w _ _ _ c0
 have e1 : IntKind.i64.wrap ((n : Int) - 1) = (n : Int) - 1 := IntWalk.i64_in _ (by omega)
 have hne : gq ≠ g := fun e => Kd.R_ne HR.out BK.out (by decide) (by rw [e]; rfl)
 have NE := Aside0.mk hne
 clear hb hr hn hz hne
 go_enter Try.func20, Try.ntmps20
 go_wp2_with fail
 refine (elen_c (some ⟨g, 0, none⟩) n c _).mono ?_
 rintro e w1' ⟨rfl, rfl⟩
 go_wp2_with fail
 refine (swap_c base _ g n c xs 0 ((n : Int) - 1) _ HR.out (by omega) (by omega) (by omega) (by omega) hgb).mono ?_
 rintro e w1 ⟨rfl, hr1, hb1, hk1⟩
 have HR1 := Aside0.mk (show Kd.R k29 29 w1 base P (.slice (some ⟨g, 0, none⟩) n c) (swapE xs 0 ((n : Int) - 1)) from hr1)
 have HB1 := Aside0.mk hb1
 have HK1 := Aside0.mk hk1
 have B1 := Aside0.mk (blk_kept BK.out hk1 NE.out)
 clear hr1 hb1 hk1 c0 hm hm2
 go_wp2_with fail
 refine (down_c base P gq g n c n (swapE xs 0 ((n : Int) - 1)) 0 ((n : Int) - 1) _ B1.out HR1.out (by omega) (by omega) (by omega) hl (by omega)).mono ?_
 rintro e w2 ⟨⟨b, rfl⟩, hr2, hb2, hk2⟩
 have B2 := Aside0.mk (blk_kept B1.out hk2 NE.out)
 have HB2 := Aside0.mk (HB1.out.trans hb2)
 have HK2 := Aside0.mk (HK1.out.then_ hk2 (fun k hk => .inl hk))
 have HQ2 := Aside0.mk (show Qu P base w2 gq (ys ++ [x]) from ⟨hg, hPg, _, B2.out, by rw [← HZ.out]; exact hr2⟩)
 have hm3 := mPop gq w2
 clear hr2 hb2 hk2 HR1 HB1 HK1
 go_wp2_with fail
 refine (epop_c P base gq ys x _ HQ2.out (Nat.le_trans hbase HB2.out.size) (by omega)).mono ?_
 rintro e w3 ⟨rfl, hq3, hb3, hk3⟩
 have HQ3 := Aside0.mk hq3
 have HB3 := Aside0.mk (HB2.out.trans hb3)
 have HK3 := Aside0.mk ((Kept.mono HK2.out (fun k hk => by subst hk; exact HPg.out)).then_ hk3 (fun k hk => .inl hk))
 clear hq3 hb3 hk3 hm3
 go_wp2_with fail
 go_ret
 exact ⟨rfl, HQ3.out, HB3.out, HK3.out⟩
set_option maxHeartbeats 4000000 in
set_option maxRecDepth 100000 in
theorem add_nil (x : S29) (w : World) : Calls Try.prog 9 #[.pointer none, vE x] w fun e w' => e = .returned (.tuple #[]) ∧ Below w.heap.size w w' := by
 go_enter Try.func9, Try.ntmps9
 go_wp2_with fail
 go_returns
 exact ⟨rfl, below_alloc (Below.refl _ _) _⟩
set_option maxHeartbeats 4000000 in
set_option maxRecDepth 100000 in
theorem len_nil (w : World) : Calls Try.prog 13 #[.pointer none] w fun e w' => e = .returned (.int .i64 0) ∧ w = w' := by
 go_enter Try.func13, Try.ntmps13
 go_wp2_with fail
 go_ret
 exact ⟨rfl, rfl⟩
set_option maxHeartbeats 4000000 in
set_option maxRecDepth 100000 in
theorem len_c (P : Nat → Prop) (base gq : Nat) (xs : List S29) (w : World) (h : Qu P base w gq xs) : Calls Try.prog 13 #[.pointer (some ⟨gq, 0, none⟩)] w fun e w' => e = .returned (.int .i64 (xs.length : Int)) ∧ w = w' := by
 obtain ⟨hg, hPg, v, hb, hr⟩ := h
 obtain ⟨A, c, rfl⟩ := Kd.R_slice hr
 have c0 : w.cell? ⟨gq, 0, none⟩ = some (.slice A xs.length c) := (blk_cell hb 0).trans rfl
 clear hb hr
 go_enter Try.func13, Try.ntmps13
 go_wp2_with fail
 go_ret
 exact ⟨rfl, rfl⟩
set_option maxHeartbeats 4000000 in
set_option maxRecDepth 100000 in
theorem add_c (P : Nat → Prop) (base gq : Nat) (xs : List S29) (x : S29) (w : World) (h : Qu P base w gq xs) (hbase : base ≤ w.heap.size) (hl : xs.length ≤ 1000000) :
  Calls Try.prog 9 #[.pointer (some ⟨gq, 0, none⟩), vE x] w fun e w' => e = .returned (.tuple #[]) ∧ Qu (fun k => P k ∨ w.heap.size ≤ k) base w' gq (pushF xs x) ∧ Below base w w' ∧ Kept w w' P := by
 have HQ := Aside0.mk h
 clear h
 go_enter Try.func9, Try.ntmps9
 go_wp2_with fail
 have HB0 := Aside0.mk (below_drew1 (below_alloc (Below.refl w.heap.size w) (.cells #[.int .i64 x.f0, .int .i64 x.f1, .string x.f2] 29)))
 have BX := Aside0.mk (blk_drew (heap_alloc_new w (.cells #[.int .i64 x.f0, .int .i64 x.f1, .string x.f2] 29)))
 obtain ⟨gb, hgb⟩ : ∃ gb, w.heap.size = gb := ⟨_, rfl⟩
 have HGB := Aside0.mk hgb
 rw [hgb] at BX ⊢
 clear hgb
 refine start_ (n := 7) (S := fun w' => w'.cell? ⟨gb, 0, none⟩ = some (.int .i64 x.f0) ∧ w'.cell? ⟨gb, 1, none⟩ = some (.int .i64 x.f1) ∧ w'.cell? ⟨gb, 2, none⟩ = some (.string x.f2)) (ds := [6]) #[false, false, false, false, false, false, false] (by kernel_rfl) rfl rfl ⟨(blk_cell BX.out 0).trans rfl, (blk_cell BX.out 1).trans rfl, (blk_cell BX.out 2).trans rfl⟩ (fun hHeld => ?_)
 generalize World.drew _ = w0 at BX HB0 hHeld ⊢
 refine pure_ (i := 0) (N := some 6) (v := ?_) (a' := ?_) #[true, false, false, false, false, false, false] rfl rfl (by kernel_rfl) (fun _ _ _ h => h) (Or.inl ⟨by rfl, ?_⟩) ?_ ?_
 rotate_left
 ·intro w'
  go_simp
  with_reducible rfl
 rotate_left
 ·simp only [Act.put, List.setIfInBounds_toArray, List.set_cons_zero, List.set_cons_succ, i64_w, i32_w]
  rfl
 refine pure_ (i := 1) (N := some 7) (v := ?_) (a' := ?_) #[true, true, false, false, false, false, false] rfl rfl (by kernel_rfl) (fun _ _ _ h => h) (Or.inl ⟨by rfl, ?_⟩) ?_ ?_
 rotate_left
 ·intro w'
  go_simp
  with_reducible rfl
 rotate_left
 ·simp only [Act.put, List.setIfInBounds_toArray, List.set_cons_zero, List.set_cons_succ, i64_w, i32_w]
  rfl
 refine pure_ (i := 2) (N := some 8) (v := ?_) (a' := ?_) #[true, true, true, false, false, false, false] rfl rfl (by kernel_rfl) (fun _ _ _ h => h) (Or.inl ⟨by rfl, ?_⟩) ?_ ?_
 rotate_left
 ·intro w'
  go_simp
  with_reducible rfl
 rotate_left
 ·simp only [Act.put, List.setIfInBounds_toArray, List.set_cons_zero, List.set_cons_succ, i64_w, i32_w]
  rfl
 refine pure_ (i := 3) (N := some 9) (v := ?_) (a' := ?_) #[true, true, true, true, false, false, false] rfl rfl (by kernel_rfl) (fun _ _ _ h => h) (Or.inl ⟨by rfl, ?_⟩) ?_ ?_
 rotate_left
 ·intro w'
  go_simp
  with_reducible rfl
 rotate_left
 ·simp only [Act.put, List.setIfInBounds_toArray, List.set_cons_zero, List.set_cons_succ, i64_w, i32_w]
  rfl
 refine take_ (i := 4) (N := some 10) (v := ?_) (a' := ?_) #[true, true, true, true, true, false, false] rfl rfl (by kernel_rfl) (fun _ _ _ h => h) (Or.inl ⟨by rfl, ?_⟩) hHeld ?_ ?_
 rotate_left
 ·rintro w' ⟨s0, s1, s2⟩
  go_simp
  with_reducible rfl
 rotate_left
 ·simp only [Act.put, List.setIfInBounds_toArray, List.set_cons_zero, List.set_cons_succ, i64_w, i32_w]
  rfl
 refine pure_ (i := 5) (N := some 11) (v := ?_) (a' := ?_) #[true, true, true, true, true, true, false] rfl rfl (by kernel_rfl) (fun _ _ _ h => h) (Or.inl ⟨by rfl, ?_⟩) ?_ ?_
 rotate_left
 ·intro w'
  go_simp
  with_reducible rfl
 rotate_left
 ·simp only [Act.put, List.setIfInBounds_toArray, List.set_cons_zero, List.set_cons_succ, i64_w, i32_w]
  rfl
 refine last_ (i := 6) (N := some 12) #[true, true, true, true, true, true, true] rfl rfl (by kernel_rfl) (by decide) (fun K hK => ?_)
 refine goes_ Try.func18 (by kernel_rfl) rfl #[.iface 48 (.pointer (some ⟨gq, 0, none⟩)), .iface 29 (vE x)] (by rfl) rfl rfl (by simp only [List.map_toArray, List.map_cons, List.map_nil]; rfl) ?_
 with_reducible refine (hpush_c P base gq xs x w0 (HQ.out.below HB0.out) (Nat.le_trans hbase HB0.out.size) hl).mono ?_
 rintro e w1 ⟨rfl, hq, hb, hk⟩
 have HQ1 := Aside0.mk (hq.mono (P' := fun k => P k ∨ w.heap.size ≤ k) (fun k hk => hk.elim .inl (fun h => .inr (Nat.le_trans HB0.out.size h))))
 have HB1 := Aside0.mk ((HB0.out.mono hbase).trans hb)
 have HK1 := Aside0.mk ((Kept.of_below HB0.out P).then_ hk (fun k hk => .inl hk))
 clear hq hb hk
 refine ⟨_, rfl, ?_⟩
 refine hK.out _ _ ?_
 clear hK K
 refine norm_ (a' := ?_) ?_ ?_
 rotate_left
 ·show Act.put _ (some 12) _ = _
  simp only [Act.put, List.setIfInBounds_toArray, List.set_cons_zero, List.set_cons_succ, i64_w, i32_w]
  rfl
 refine done_ (by kernel_rfl) ?_
 go_wp2_with fail
 go_returns
 exact ⟨rfl, HQ1.out, HB1.out, HK1.out⟩
set_option maxHeartbeats 4000000 in
set_option maxRecDepth 100000 in
theorem next_no (P : Nat → Prop) (base gq : Nat) (w : World) (h : Qu P base w gq []) (hbase : base ≤ w.heap.size) :
  Calls Try.prog 11 #[.pointer (some ⟨gq, 0, none⟩)] w fun e w' => e = .returned (.tuple #[vE z29, .bool false]) ∧ Below w.heap.size w w' := by
 have HQ := Aside0.mk h
 clear h
 go_enter Try.func11, Try.ntmps11
 go_wp2_with (go_at_call 13; refine (len_c P base gq [] _ (HQ.out.below (below_alloc (Below.refl _ _) _))).mono ?_; rintro e w1 ⟨rfl, rfl⟩)
 go_returns
 exact ⟨rfl, below_alloc (Below.refl _ _) _⟩
set_option maxHeartbeats 4000000 in
set_option maxRecDepth 100000 in
theorem next_nil (w : World) :
  Calls Try.prog 11 #[.pointer none] w fun e w' => e = .returned (.tuple #[vE z29, .bool false]) ∧ Below w.heap.size w w' := by
 go_enter Try.func11, Try.ntmps11
 go_wp2_with (go_at_call 13; refine (len_nil _).mono ?_; rintro e w1 ⟨rfl, rfl⟩)
 go_returns
 exact ⟨rfl, below_alloc (Below.refl _ _) _⟩
set_option maxHeartbeats 4000000 in
set_option maxRecDepth 100000 in
theorem next_yes (P : Nat → Prop) (base gq : Nat) (xs ys : List S29) (x : S29) (w : World) (h : Qu P base w gq xs) (hbase : base ≤ w.heap.size) (hl : xs.length ≤ 1000000) (hp : 0 < xs.length) (hz : popZ xs = ys ++ [x]) :
  Calls Try.prog 11 #[.pointer (some ⟨gq, 0, none⟩)] w fun e w' => e = .returned (.tuple #[vE x, .bool true]) ∧ Qu P base w' gq ys ∧ Below base w w' ∧ Kept w w' P := by
 have HQ := Aside0.mk h
 have HZ := Aside0.mk hz
 have t0 : ((xs.length : Int) == 0) = false := beq_eq_false_iff_ne.mpr (by omega)
 have t1 : (xs.length == 0) = false := beq_eq_false_iff_ne.mpr (by omega)
 have hta := fun (w : World) => ta_c (vE x) w
 clear h hz
 go_enter Try.func11, Try.ntmps11
 go_wp2_with (first | (go_at_call 13; refine (len_c P base gq xs _ (HQ.out.below (below_alloc (Below.refl _ _) _))).mono ?_; rintro e w1 ⟨rfl, rfl⟩) | fail)
 have hk0 := below_alloc (Below.refl w.heap.size w) (.cells #[.int .i64 0, .int .i64 0, .string ⟨#[]⟩] 29)
 have hb0 := heap_alloc_new w (.cells #[.int .i64 0, .int .i64 0, .string ⟨#[]⟩] 29)
 have HK0 := Aside0.mk hk0
 refine (hpop_c (fun k => P k ∧ k < w.heap.size) base gq xs ys x _ (HQ.out.bound.below hk0) (Nat.le_trans hbase hk0.size) hl hp HZ.out).mono ?_
 rintro e w1 ⟨rfl, hq, hb, hk⟩
 have BG := Aside0.mk (blk_kept hb0 hk (fun h => absurd h.2 (Nat.lt_irrefl _)))
 have HQ1 := Aside0.mk hq
 have HB1 := Aside0.mk ((hk0.mono hbase).trans hb)
 have HK1 := Aside0.mk ((Kept.of_below hk0 P).then_ hk (fun k hk => .inl hk.1))
 obtain ⟨gb, hgb⟩ : ∃ gb, w.heap.size = gb := ⟨_, rfl⟩
 have HGB := Aside0.mk hgb
 rw [hgb] at BG ⊢
 clear hk0 hb0 hq hb hk hgb t0 t1
 have z0 : w1.cell? ⟨gb, 0, none⟩ = some (.int .i64 0) := (blk_cell BG.out 0).trans rfl
 have z1 : w1.cell? ⟨gb, 1, none⟩ = some (.int .i64 0) := (blk_cell BG.out 1).trans rfl
 have z2 : w1.cell? ⟨gb, 2, none⟩ = some (.string ⟨#[]⟩) := (blk_cell BG.out 2).trans rfl
 have f0 := blk_frozen BG.out 0
 have f1 := blk_frozen BG.out 1
 have f2 := blk_frozen BG.out 2
 go_wp2_with fail
 have hb3 := blk_put (cs := #[.int .i64 x.f0, .int .i64 x.f1, .string ⟨#[]⟩]) (blk_put (cs := #[.int .i64 x.f0, .int .i64 0, .string ⟨#[]⟩]) (blk_put BG.out 0 (.int .i64 x.f0) rfl) 1 (.int .i64 x.f1) rfl) 2 (.string x.f2) rfl
 have hK3 := kept_set3 (Kept.refl w1 (fun k => k = gb)) 0 1 2 (.int .i64 x.f0) (.int .i64 x.f1) (.string x.f2)
 have hB3 := below_set3 HB1.out (show base ≤ gb from HGB.out ▸ hbase) 0 1 2 (.int .i64 x.f0) (.int .i64 x.f1) (.string x.f2)
 generalize ((w1.setCell ⟨gb, 0, none⟩ (.int .i64 x.f0)).setCell ⟨gb, 1, none⟩ (.int .i64 x.f1)).setCell ⟨gb, 2, none⟩ (.string x.f2) = w3 at hb3 hK3 hB3 ⊢
 have y0 : w3.cell? ⟨gb, 0, none⟩ = some (.int .i64 x.f0) := (blk_cell hb3 0).trans rfl
 have y1 : w3.cell? ⟨gb, 1, none⟩ = some (.int .i64 x.f1) := (blk_cell hb3 1).trans rfl
 have y2 : w3.cell? ⟨gb, 2, none⟩ = some (.string x.f2) := (blk_cell hb3 2).trans rfl
 refine bodyPost_ret (v := .tuple #[vE x, .bool true]) (by simp [results, Try.results11, go_sem, y0, y1, y2]; try rfl) rfl ?_
 refine ⟨rfl, (HQ1.out.kept hK3 (fun k hk e => ?_)).mono (fun k hk => hk.1), hB3, HK1.out.then_ hK3 (fun k hk => .inr ?_)⟩
 ·subst e; have := hk.2; rw [HGB.out] at this; exact absurd this (Nat.lt_irrefl _)
 ·subst hk; exact Nat.le_of_eq HGB.out
def lenV : Value → Nat
 | .slice _ n _ => n
 | _ => 0
def fillF (xs : List S29) : List S29 := xs.foldl pushF []
def drainF : Nat → List S29 → List S29
 | 0, _ => []
 | d + 1, xs => if xs = [] then [] else rd_T29 (popZ xs) ((xs.length : Int) - 1) :: drainF d (popZ xs).dropLast
def sortF (xs : List S29) : List S29 := drainF xs.length (fillF xs)
theorem upF_len (d : Nat) : ∀ (xs : List S29) (j : Int), (upF d xs j).length = xs.length := by
 induction d with
 | zero => intro xs j; rfl
 | succ d ih =>
  intro xs j
  simp only [upF]
  split
  ·rfl
  ·split
   ·rw [ih, swapE_len]
   ·rfl
theorem pushF_len (xs : List S29) (x : S29) : (pushF xs x).length = xs.length + 1 := by simp [pushF, upF_len]
theorem popZ_len (xs : List S29) : (popZ xs).length = xs.length := by unfold popZ; rw [downF_len, swapE_len]
theorem foldl_len (xs : List S29) : ∀ q : List S29, (xs.foldl pushF q).length = q.length + xs.length := by
 induction xs with
 | nil => intro q; rfl
 | cons x xs ih => intro q; rw [List.foldl_cons, ih, pushF_len, List.length_cons]; omega
theorem popZ_split {xs : List S29} (h : 0 < xs.length) : popZ xs = (popZ xs).dropLast ++ [rd_T29 (popZ xs) ((xs.length : Int) - 1)] := by
 have hl := popZ_len xs
 have hne : popZ xs ≠ [] := by intro e; rw [e] at hl; simp at hl; omega
 rw [show rd_T29 (popZ xs) ((xs.length : Int) - 1) = (popZ xs).getLast hne from by
  unfold rd_T29
  rw [List.getLast_eq_getElem, show ((xs.length : Int) - 1).toNat = (popZ xs).length - 1 by omega, List.getD_eq_getElem?_getD, List.getElem?_eq_getElem (by omega), Option.getD_some]]
 exact (List.dropLast_concat_getLast hne).symm
set_option maxHeartbeats 4000000 in
set_option maxRecDepth 100000 in
theorem sort_c (A : Option Addr) (c : Nat) (xs : List S29) (w : World) (hr : Kd.C k29 w A xs.length xs) (hc : xs.length ≤ c) (hl : xs.length ≤ 1000) :
  Calls Try.prog 14 #[.slice A xs.length c] w fun e w' => ∃ v, e = .returned v ∧ Kd.R k29 29 w' w.heap.size (fun _ => True) v (sortF xs) ∧ Below w.heap.size w w' := by
 have HR := Aside0.mk hr
 have HQ0 := Aside0.mk (show Qu (fun k => k = w.heap.size) w.heap.size (w.alloc (.cells #[.slice none 0 0] 27)) w.heap.size [] from ⟨Nat.le_refl _, rfl, _, heap_alloc_new w _, Kd.R_nil _ _ _ _ _⟩)
 have HB0 := Aside0.mk (below_alloc (Below.refl w.heap.size w) (.cells #[.slice none 0 0] 27))
 clear hr
 go_enter Try.func14, Try.ntmps14
 go_wp2_with fail
 obtain ⟨gq, hgq⟩ : ∃ gq, w.heap.size = gq := ⟨_, rfl⟩
 have HGQ := Aside0.mk hgq
 replace HQ0 := Aside0.mk (show Qu (fun k => k = w.heap.size) w.heap.size (w.alloc (.cells #[.slice none 0 0] 27)) gq [] from by rw [← hgq]; exact HQ0.out)
 rw [hgq]
 clear hgq
 go_loopw [13] (fun iv wr => ∃ (i : Int) (P : Nat → Prop), iv = .int .i64 i ∧ 0 ≤ i ∧ i ≤ xs.length ∧ Aside0 (Qu P w.heap.size wr gq (fillF (xs.take i.toNat))) ∧ Aside0 (Below w.heap.size w wr)) (fun iv _ => xs.length - (intOf iv).toNat)
 case atStart => exact ⟨0, _, rfl, Int.le_refl _, by omega, HQ0, HB0⟩
 case round =>
  clear HQ0 HB0
  obtain ⟨i, P, rfl, i0, il, HQ, HB⟩ := hrel
  by_cases hlt : i < (xs.length : Int)
  ·have b1 : decide (i < (xs.length : Int)) = true := decide_eq_true hlt
   obtain ⟨ad, rfl, x0, x1, x2⟩ := at_T29 HR.out i i0 hlt
   replace x0 := (HB.out.cell (World.block_lt_of_cell? w _ x0)).trans x0
   replace x1 := (HB.out.cell (World.block_lt_of_cell? w _ x1)).trans x1
   replace x2 := (HB.out.cell (World.block_lt_of_cell? w _ x2)).trans x2
   have hn : i.toNat < xs.length := by omega
   have htk : xs.take (i.toNat + 1) = xs.take i.toNat ++ [rd_T29 xs i] := by
    rw [List.take_succ_eq_append_getElem hn]
    congr 2
    unfold rd_T29
    simp [hn]
   have HTK := Aside0.mk htk
   have HI := Aside0.mk (And.intro i0 hlt)
   generalize rd_T29 xs i = x at x0 x1 x2 HTK
   have p1 := eq_true i0
   have p2 := eq_true hlt
   have e12 : IntKind.i64.wrap (i + 1) = i + 1 := IntWalk.i64_in _ (by omega)
   have hfl : (fillF (xs.take i.toNat)).length ≤ 1000000 := by unfold fillF; rw [foldl_len]; simp; omega
   have HFL := Aside0.mk hfl
   clear htk hn i0 hlt il hfl
   go_wp2_with (first | ((with_reducible refine gate_dst (N := 5) rfl ?_); (try (refine gate_guard (by rfl) ?_; dsimp only)); refine box_event ?hg (N := 5) ?hd (cs := #[.int .i64 0, .int .i64 0, .string ⟨#[]⟩]) (t := 29) ?hr ?_; (case hd => rfl); (case hg => rfl); (case hr => first | (go_simp; done) | (go_simp; rfl)); intro gb hgb w12 hbox hb12; have HBL := Aside0.mk hb12; have BX := Aside0.mk hbox; have GE := Aside0.mk (show wr.heap.size ≤ gb from by rw [hgb]; exact Nat.le_refl _); clear hb12 hbox hgb; have z0 : w12.cell? ⟨gb, 0, none⟩ = some (.int .i64 0) := (blk_cell BX.out 0).trans rfl; have z1 : w12.cell? ⟨gb, 1, none⟩ = some (.int .i64 0) := (blk_cell BX.out 1).trans rfl; have z2 : w12.cell? ⟨gb, 2, none⟩ = some (.string ⟨#[]⟩) := (blk_cell BX.out 2).trans rfl; have f0 := blk_frozen BX.out 0; have f1 := blk_frozen BX.out 1; have f2 := blk_frozen BX.out 2) | ((with_reducible refine gate_store (t := 29) (p := 5) rfl ?_); refine store_event (t := 29) (p := 5) (v := ?vo_w14_5) (w1 := (((w12.setCell ⟨gb, 0, none⟩ (.int .i64 x.f0)).setCell ⟨gb, 1, none⟩ (.int .i64 x.f1)).setCell ⟨gb, 2, none⟩ (.string x.f2))) ?hg ?ho ?hn ?hr ?_; (case ho => rfl); (case hg => rfl); (case hn => rfl); (case hr => first | (go_simp; done) | (go_simp; rfl)); intro w14 hw; have BX2 := Aside0.mk (show w14.heap[gb]? = some (.cells #[.int .i64 x.f0, .int .i64 x.f1, .string x.f2] 29 (0, 0)) from by rw [hw]; exact blk_put (cs := #[.int .i64 x.f0, .int .i64 x.f1, .string ⟨#[]⟩]) (blk_put (cs := #[.int .i64 x.f0, .int .i64 0, .string ⟨#[]⟩]) (blk_put BX.out 0 (.int .i64 x.f0) rfl) 1 (.int .i64 x.f1) rfl) 2 (.string x.f2) rfl); have HBL2 := Aside0.mk (show Below wr.heap.size wr w14 from by rw [hw]; exact below_set3 HBL.out GE.out 0 1 2 _ _ _); clear hw z0 z1 z2 f0 f1 f2 BX HBL; have y0 : w14.cell? ⟨gb, 0, none⟩ = some (.int .i64 x.f0) := (blk_cell BX2.out 0).trans rfl; have y1 : w14.cell? ⟨gb, 1, none⟩ = some (.int .i64 x.f1) := (blk_cell BX2.out 1).trans rfl; have y2 : w14.cell? ⟨gb, 2, none⟩ = some (.string x.f2) := (blk_cell BX2.out 2).trans rfl))
   refine (add_c P w.heap.size gq _ x _ (HQ.out.below HBL2.out) (Nat.le_trans HB.out.size HBL2.out.size) HFL.out).mono ?_
   rintro e w3 ⟨rfl, hq, hb, hk⟩
   have HQ3 := Aside0.mk hq
   have HB3 := Aside0.mk ((HB.out.trans (HBL2.out.mono HB.out.size)).trans hb)
   have hi := HI.out
   clear hq hb hk
   go_wp2_with fail
   go_roundw
   case rel => exact ⟨i + 1, _, rfl, by omega, by omega, ⟨by rw [show (i + 1).toNat = i.toNat + 1 by omega, HTK.out, fillF, List.foldl_append]; exact HQ3.out⟩, HB3⟩
   case measure => simp [intOf]; omega
  ·have b1 : decide (i < (xs.length : Int)) = false := decide_eq_false hlt
   have hq : xs.take i.toNat = xs := List.take_of_length_le (by omega)
   have HQ' := Aside0.mk (by rw [hq] at HQ; exact HQ.out : Qu P w.heap.size wr gq (fillF xs))
   have HFL := Aside0.mk (show (fillF xs).length = xs.length by unfold fillF; rw [foldl_len]; simp)
   clear hlt i0 il hq HQ
   go_wp2_with fail
   go_loopw [6] (fun ov wi => ∃ (P : Nat → Prop) (qs os : List S29), Aside0 (Qu P w.heap.size wi gq qs) ∧ Aside0 (Kd.R k29 29 wi w.heap.size (fun k => ¬ P k) ov os) ∧ Aside0 (Below w.heap.size w wi) ∧ os.length + qs.length = xs.length ∧ Aside0 (os ++ drainF qs.length qs = sortF xs)) (fun ov _ => xs.length - lenV ov)
   case atStart => exact ⟨P, fillF xs, [], HQ', ⟨Kd.R_nil _ _ _ _ _⟩, HB, by rw [HFL.out]; simp, ⟨by rw [HFL.out]; rfl⟩⟩
   case round =>
    clear HQ' HB HFL
    obtain ⟨P, qs, os, HQ, HO, HB, hlen, HS⟩ := hrel
    obtain ⟨Ao, co, rfl⟩ := Kd.R_slice HO.out
    by_cases hq : qs = []
    ·subst hq
     have HS2 := Aside0.mk (show os = sortF xs from by rw [← HS.out]; simp [drainF])
     clear HS hlen
     go_wp2_with (go_at_call 13; refine (len_c P _ gq [] _ HQ.out).mono ?_; rintro e w1 ⟨rfl, rfl⟩)
     go_ret
     exact ⟨_, rfl, by rw [← HS2.out]; exact Kd.R_mono HO.out (fun _ _ => trivial), HB.out⟩
    ·have hp : 0 < qs.length := List.length_pos_iff.2 hq
     have hsp := popZ_split hp
     obtain ⟨x, hx⟩ : ∃ x, rd_T29 (popZ qs) ((qs.length : Int) - 1) = x := ⟨_, rfl⟩
     obtain ⟨ys, hys⟩ : ∃ ys, (popZ qs).dropLast = ys := ⟨_, rfl⟩
     have hyl : ys.length + 1 = qs.length := by rw [← hys, List.length_dropLast, popZ_len]; omega
     rw [hx, hys] at hsp
     have HSP := Aside0.mk hsp
     have HS2 := Aside0.mk (show (os ++ [x]) ++ drainF ys.length ys = sortF xs from by
      rw [← HS.out, show qs.length = ys.length + 1 by omega]
      simp only [drainF]
      rw [if_neg hq, hx, hys]
      simp)
     have t0 : decide (0 < (qs.length : Int)) = true := decide_eq_true (by omega)
     have t1 : decide (0 < qs.length) = true := decide_eq_true hp
     have HQB := Aside0.mk hq
     have HHP := Aside0.mk hp
     clear HS hsp hx hys hq hp
     go_wp2_with (go_at_call 13; refine (len_c P _ gq qs _ HQ.out).mono ?_; rintro e w1 ⟨rfl, rfl⟩)
     refine (next_yes P w.heap.size gq qs ys x _ HQ.out HB.out.size (by omega) HHP.out HSP.out).mono ?_
     rintro e w3 ⟨rfl, hq3, hb3, hk3⟩
     have HQ3 := Aside0.mk hq3
     have HB3 := Aside0.mk (HB.out.trans hb3)
     have HO3 := Aside0.mk (Kd.R_kept HO.out hk3 (fun k h1 h2 => h1 h2))
     clear hq3 hb3 hk3 HQ HB HO t0 t1
     go_wp2_with (first | ((with_reducible refine gate_dst (N := 7) rfl ?_); (try (refine gate_guard (by rfl) ?_; dsimp only)); refine box_event ?hg (N := 7) ?hd (cs := #[.int .i64 0, .int .i64 0, .string ⟨#[]⟩]) (t := 29) ?hr ?_; (case hd => rfl); (case hg => rfl); (case hr => first | (go_simp; done) | (go_simp; rfl)); intro gb hgb w12 hbox hb12; have HBL := Aside0.mk hb12; have BX := Aside0.mk hbox; have GE := Aside0.mk (show w3.heap.size ≤ gb from by rw [hgb]; exact Nat.le_refl _); clear hb12 hbox hgb; have z0 : w12.cell? ⟨gb, 0, none⟩ = some (.int .i64 0) := (blk_cell BX.out 0).trans rfl; have z1 : w12.cell? ⟨gb, 1, none⟩ = some (.int .i64 0) := (blk_cell BX.out 1).trans rfl; have z2 : w12.cell? ⟨gb, 2, none⟩ = some (.string ⟨#[]⟩) := (blk_cell BX.out 2).trans rfl; have f0 := blk_frozen BX.out 0; have f1 := blk_frozen BX.out 1; have f2 := blk_frozen BX.out 2) | ((with_reducible refine gate_store (t := 29) (p := 7) rfl ?_); refine store_event (t := 29) (p := 7) (v := ?vo_w14_7) (w1 := (((w12.setCell ⟨gb, 0, none⟩ (.int .i64 x.f0)).setCell ⟨gb, 1, none⟩ (.int .i64 x.f1)).setCell ⟨gb, 2, none⟩ (.string x.f2))) ?hg ?ho ?hn ?hr ?_; (case ho => rfl); (case hg => rfl); (case hn => rfl); (case hr => first | (go_simp; done) | (go_simp; rfl)); intro w14 hw; have BX2 := Aside0.mk (show w14.heap[gb]? = some (.cells #[.int .i64 x.f0, .int .i64 x.f1, .string x.f2] 29 (0, 0)) from by rw [hw]; exact blk_put (cs := #[.int .i64 x.f0, .int .i64 x.f1, .string ⟨#[]⟩]) (blk_put (cs := #[.int .i64 x.f0, .int .i64 0, .string ⟨#[]⟩]) (blk_put BX.out 0 (.int .i64 x.f0) rfl) 1 (.int .i64 x.f1) rfl) 2 (.string x.f2) rfl); have HBL2 := Aside0.mk (show Below w3.heap.size w3 w14 from by rw [hw]; exact below_set3 HBL.out GE.out 0 1 2 _ _ _); clear hw z0 z1 z2 f0 f1 f2 BX HBL; have y0 : w14.cell? ⟨gb, 0, none⟩ = some (.int .i64 x.f0) := (blk_cell BX2.out 0).trans rfl; have y1 : w14.cell? ⟨gb, 1, none⟩ = some (.int .i64 x.f1) := (blk_cell BX2.out 1).trans rfl; have y2 : w14.cell? ⟨gb, 2, none⟩ = some (.string x.f2) := (blk_cell BX2.out 2).trans rfl; have HB14 := Aside0.mk (HB3.out.trans (HBL2.out.mono HB3.out.size)); have HO14 := Aside0.mk (Kd.R_below HO3.out HBL2.out); have HQ14 := Aside0.mk ((HQ3.out.below HBL2.out).bound); clear HO3 HQ3 HB3 HBL2) | (at_builtin; go_loud ((refine Kd.R_append k29 (w0 := w14) w.heap.size rfl (.tmp 29) (.tmp 31) 22 29 (.agg #[.int .i64 0, .int .i64 0, .string ⟨#[]⟩]) 32 rfl Try.underlying22 infoE rfl (by decide) (by decide) (.slice Ao os.length co) os x [.int .i64 x.f0, .int .i64 x.f1, .string x.f2] (fun k => ¬ (P k ∧ k < w14.heap.size)) (fun _ => False) rfl rfl (k29_mkM w14 w.heap.size _ x) (fun _ h => h.elim) (fun k hk h => Nat.lt_irrefl _ (Nat.lt_of_lt_of_le h.2 hk)) (Kd.R_mono HO14.out (fun k hk h => hk h.1)) (Below.refl _ _) HB14.out.size (by omega) ?_; intro v5 w5 ho hb hg hat; have HO5 := Aside0.mk ho; have HB5 := Aside0.mk (HB14.out.trans hb); have HQ5 := Aside0.mk (HQ14.out.kept (Kept.of_grown hg (Kept.refl w14 (fun k => some k = (Value.slice Ao os.length co).ownBlock)) (fun k hk => .inl hk.symm)) (fun k hk e => HO14.out.1 k e.symm hk.1)); clear ho hb hg hat))))
     have hlen2 := hlen
     obtain ⟨A5, c5, rfl⟩ := Kd.R_slice HO5.out
     go_roundw
     case rel => exact ⟨_, ys, os ++ [x], HQ5, HO5, HB5, by simp; omega, HS2⟩
     case measure => simp [lenV]; omega
theorem k29_KM {w : World} {base : Nat} {ok : Nat → Prop} {x : S29} {cs : List Value} (h : k29.K w x cs) : k29.M w base ok x cs := by
 rw [k29_open h]
 exact k29_mkM w base ok x
theorem flat_next {α : Type} (xs : List (List α)) (x : Int) (h0 : 0 ≤ x) (h1 : x < xs.length) : (xs.take (x + 1).toNat).flatten = (xs.take x.toNat).flatten ++ xs.getD x.toNat [] := by
 have hl : x.toNat < xs.length := by omega
 rw [show (x + 1).toNat = x.toNat + 1 by omega, List.take_succ_eq_append_getElem hl, List.flatten_append, List.flatten_cons, List.flatten_nil, List.append_nil, List.getD_eq_getElem?_getD, List.getElem?_eq_getElem hl, Option.getD_some]
theorem flat_le {α : Type} (xs : List (List α)) (n : Nat) : (xs.take n).flatten.length ≤ xs.flatten.length := by
 have h : xs.flatten = (xs.take n).flatten ++ (xs.drop n).flatten := by rw [← List.flatten_append, List.take_append_drop]
 rw [h, List.length_append]
 omega
set_option maxHeartbeats 4000000 in
set_option maxRecDepth 100000 in
theorem grow_0 (n : Int) (W : World) (h0 : 0 ≤ n) (h1 : n ≤ 100000) :
  Calls Try.prog 26 #[.slice none 0 0, .int .i64 n] W fun e W' => ∃ v, e = .returned v ∧ Kd.R k29 29 W' W.heap.size (fun _ => True) v [] ∧ Below W.heap.size W W' := by
 have t1 : (n < 0) = False := eq_false (by omega)
 have e1 : IntKind.i64.wrap n = n := IntWalk.i64_in _ (by omega)
 by_cases hz : 0 < n
 ·go_enter Try.func26, Try.ntmps26
  go_wp2_with (at_builtin; go_loud ((refine Kd.R_append_zeros k29 (w0 := W) W.heap.size rfl (.tmp 20) (.tmp 21) 22 3 29 (.agg #[.int .i64 0, .int .i64 0, .string ⟨#[]⟩]) 32 rfl Try.underlying22 Try.underlying3 infoE rfl (by decide) (by decide) (.slice none 0 0) [] z29 n (fun _ => True) rfl rfl (k29_mkM W W.heap.size _ z29) (fun _ _ => trivial) (Kd.R_nil _ _ _ _ _) (by omega) (Below.refl _ _) (Nat.le_refl _) ?aL ?_; (case aL => simp; omega); intro v1 w1 ho hb _ _; obtain ⟨A1, c1, rfl⟩ := Kd.R_slice ho; have HO := Aside0.mk ho; have HB := Aside0.mk hb; clear ho hb)))
  go_ret
  exact ⟨_, rfl, Kd.R_take (m := 0) HO.out (Nat.zero_le _), HB.out⟩
 ·obtain rfl : n = 0 := by omega
  go_enter Try.func26, Try.ntmps26
  go_wp2_with fail
  go_ret
  exact ⟨_, rfl, Kd.R_nil _ _ _ _ _, Below.refl _ _⟩
set_option maxHeartbeats 4000000 in
set_option maxRecDepth 100000 in
theorem concat_c (A : Option Addr) (c : Nat) (xs : List (List S29)) (W : World) (hr : Kd.C (Kd.slice 29 k29) W A xs.length xs) (hc : xs.length ≤ c) (hx : xs.length ≤ 1000) (hl : xs.flatten.length ≤ 100000) :
  Calls Try.prog 22 #[.slice A xs.length c] W fun e W' => ∃ v, e = .returned v ∧ Kd.R k29 29 W' W.heap.size (fun _ => True) v xs.flatten ∧ Below W.heap.size W W' := by
 have HR := Aside0.mk hr
 clear hr
 go_enter Try.func22, Try.ntmps22
 go_wp2_with fail
 go_loop [3, 5, 11] (fun s _ i => ∃ x : Int, i = .int .i64 x ∧ 0 ≤ x ∧ x ≤ xs.length ∧ s = .int .i64 ((xs.take x.toNat).flatten.length : Int)) (fun _ _ i => (xs.length - (intOf i).toNat))
 case atStart => exact ⟨0, rfl, Int.le_refl _, by omega, rfl⟩
 case round =>
  obtain ⟨x, rfl, hx0, hxl, rfl⟩ := hrel
  by_cases hlt : x < (xs.length : Int)
  ·obtain ⟨ad, A0, c0, rfl, q0, q1, _⟩ := at_L3 HR.out x hx0 hlt
   have hf := flat_next xs x hx0 hlt
   have hn1 := flat_le xs x.toNat
   have hn2 := flat_le xs (x + 1).toNat
   rw [hf, List.length_append] at hn2
   obtain ⟨y, hy⟩ : ∃ y, rd_L3 xs x = y := ⟨_, rfl⟩
   have hy2 : xs.getD x.toNat [] = y := hy
   rw [hy2] at hf hn2
   rw [hy] at q0
   have HF := Aside0.mk hf
   obtain ⟨m, hm⟩ : ∃ m, (xs.take x.toNat).flatten.length = m := ⟨_, rfl⟩
   rw [hm] at hn1 hn2 ⊢
   have HM := Aside0.mk hm
   have t1 : ((m : Int) + (y.length : Int) < 0) = False := eq_false (by omega)
   have e1 : IntKind.i64.wrap ((m : Int) + (y.length : Int)) = (m : Int) + y.length := IntWalk.i64_in _ (by omega)
   clear hf hm hy hy2
   go_wp2_with fail
   go_round
   case rel => exact ⟨x + 1, rfl, by omega, by omega, by rw [HF.out, List.length_append, HM.out]; rfl⟩
   case measure => simp [intOf]; omega
  ·have hxe : x = (xs.length : Int) := by omega
   have hn1 := flat_le xs x.toNat
   obtain ⟨m, hm⟩ : ∃ m, (xs.take x.toNat).flatten.length = m := ⟨_, rfl⟩
   rw [hm] at hn1 ⊢
   clear hm
   go_wp2_with fail
   refine (grow_0 (m : Int) _ (by omega) (by omega)).mono ?_
   rintro e w2 ⟨v2, rfl, ho2, hb2⟩
   have HO := Aside0.mk ho2
   have HB := Aside0.mk hb2
   clear ho2 hb2
   go_wp2_with fail
   go_loopw [6, 8, 27] (fun v _ i wr => ∃ x : Int, i = .int .i64 x ∧ 0 ≤ x ∧ x ≤ xs.length ∧ Aside0 (Kd.R k29 29 wr W.heap.size (fun _ => True) v (xs.take x.toNat).flatten) ∧ Aside0 (Below W.heap.size W wr)) (fun _ _ i _ => (xs.length - (intOf i).toNat))
   case atStart => exact ⟨0, rfl, Int.le_refl _, by omega, HO, HB⟩
   case round =>
    clear HO HB
    obtain ⟨x, rfl, hx0, hxl, HO, HB⟩ := hrel
    have hf := flat_next xs x hx0
    have hn2 := flat_le xs (x + 1).toNat
    have hze := fun h : x = xs.length => show (xs.take x.toNat).flatten = xs.flatten by rw [h, Int.toNat_natCast, List.take_length]
    obtain ⟨zs, hzs⟩ : ∃ zs, (xs.take x.toNat).flatten = zs := ⟨_, rfl⟩
    rw [hzs] at HO hf hze
    clear hzs
    obtain ⟨A1, c1, rfl⟩ := Kd.R_slice HO.out
    by_cases hlt : x < (xs.length : Int)
    ·obtain ⟨ad, A0, c0, rfl, q0, q1, q2⟩ := at_L3 HR.out x hx0 hlt
     replace q0 := (HB.out.cell (World.block_lt_of_cell? W _ q0)).trans q0
     replace hf := hf hlt
     rw [hf, List.length_append] at hn2
     obtain ⟨y, hy⟩ : ∃ y, rd_L3 xs x = y := ⟨_, rfl⟩
     have hy2 : xs.getD x.toNat [] = y := hy
     rw [hy2] at hf hn2
     rw [hy] at q0 q2
     have HF := Aside0.mk hf
     have HC := Aside0.mk q2
     clear hf hy hy2 q2 q1 hze
     go_wp2_with (at_builtin; go_loud ((refine Kd.R_append_rows k29 (w0 := W) W.heap.size rfl (.tmp 31) (.tmp 32) 22 29 (.agg #[.int .i64 0, .int .i64 0, .string ⟨#[]⟩]) 32 rfl Try.underlying22 infoE rfl (by decide) (by decide) (.slice A1 zs.length c1) zs y A0 y.length c0 (fun _ => True) (fun _ => False) rfl rfl HO.out (Kd.C_below HC.out HB.out) (fun x cs h => k29_KM h) (fun _ h => h.elim) (fun _ _ => trivial) HB.out HB.out.size ?aL ?_; (case aL => omega); intro v3 w3 ho hb _ _; have HO3 := Aside0.mk ho; have HB3 := Aside0.mk hb; clear ho hb)))
     go_roundw
     case rel => exact ⟨x + 1, rfl, by omega, by omega, ⟨by rw [HF.out]; exact HO3.out⟩, HB3⟩
     case measure => simp [intOf]; omega
    ·have hxe : x = (xs.length : Int) := by omega
     have HZ := Aside0.mk (hze hxe)
     clear hf hn2 hze
     go_wp2_with fail
     go_ret
     rw [← HZ.out]
     exact ⟨_, rfl, HO.out, HB.out⟩
theorem clear_row {W : World} {base : Nat} {ok : Nat → Prop} {g n c q : Nat} {ys : List S29} (HR : Kd.R k29 29 W base ok (.slice (some ⟨g, 0, none⟩) n c) ys) (hq : q ≤ n) (zs : List Value) (hz : zs.length = (n - q) * 3) :
  Kd.R k29 29 (W.setCells g (q * 3) zs) base ok (.slice (some ⟨g, 0, none⟩) q c) (ys.take q) ∧ W.grownBy (W.setCells g (q * 3) zs) (some g) := by
 have hn := (Kd.R_reads' HR).1
 have ht := Kd.R_take HR (m := q) (by omega)
 obtain ⟨h0, inner, ho, hr⟩ := ht
 obtain ⟨hl, hx | ⟨b, cap, cells, he, hb, hh, h5, h6, h7, h8⟩⟩ := ho
 ·cases hx.1
 ·injection he with e1 e2 e3
  injection e1 with e1
  injection e1 with e1
  subst e1; subst e3
  have hnc := (Kd.R_reads' HR).2.1
  have h7' : cells.size = c * 3 := h7
  have hfit : q * 3 + zs.length ≤ cells.size := by rw [hz, h7']; omega
  obtain ⟨cur', hg', hs', hl'⟩ := setCells_row zs (q * 3) W cells hh hfit
  obtain ⟨s1, s2, s3, s4⟩ := setCells_same g zs (q * 3) W
  refine ⟨⟨h0, inner, ⟨hl, .inr ⟨g, c, cur', by rw [← e2], hb, hg', h5, h6, by rw [hs', h7], ?_⟩⟩, hr.1, fun j p hj => ?_⟩, ⟨s1, s2, s3, Nat.le_of_eq s4.symm, fun k hk hne => setCells_far zs (q * 3) k (fun e => hne (by rw [e]))⟩⟩
  ·rw [← h8, hl', ← e2, show q * k29.sz = q * 3 from rfl, List.append_assoc, List.take_left' (by rw [List.length_take, Array.length_toList]; omega)]
  ·have h := k29_openM (hr.2 j p hj)
   rw [h]
   exact k29_mkM _ base _ p
theorem zero_len (n : Nat) : (Builtin.zeroCells #[.int .i64 0, .int .i64 0, .string ⟨#[]⟩] n).toList.length = n * 3 := by
 simp [Builtin.zeroCells]
theorem clear_run {W : World} {base : Nat} {ok : Nat → Prop} {g n c q cc : Nat} {ys : List S29} (HR : Kd.R k29 29 W base ok (.slice (some ⟨g, 0, none⟩) n c) ys) (hq : q < n) (t : TypeId) :
  (Builtin.clear_ #[22] t #[.slice (some ⟨g, q * 3, none⟩) (n - q) cc]).run Try.prog W = .ok (.tuple #[]) (W.setCells g (q * 3) (Builtin.zeroCells #[.int .i64 0, .int .i64 0, .string ⟨#[]⟩] (n - q)).toList) := by
 have hn := (Kd.R_reads' HR).1
 have hnc := (Kd.R_reads' HR).2.1
 obtain ⟨_, inner, ⟨hl, hx | ⟨b, cap, cells, he, hb, hh, h5, h6, h7, h8⟩⟩, hr⟩ := HR
 ·cases hx.1
 ·injection he with e1 e2 e3
  injection e1 with e1
  injection e1 with e1
  subst e1; subst e3
  have h7' : cells.size = c * 3 := h7
  have h1 : ∀ v ∈ (Builtin.zeroCells #[.int .i64 0, .int .i64 0, .string ⟨#[]⟩] (n - q)).toList, v.oneCell' = true := by
   intro v hv
   simp only [Builtin.zeroCells, Array.toList_map, List.mem_map] at hv
   obtain ⟨i, _, rfl⟩ := hv
   have h3 : i % 3 < 3 := Nat.mod_lt _ (by decide)
   show ((#[Value.int .i64 0, .int .i64 0, .string ⟨#[]⟩] : Array Value)[i % 3]!).oneCell' = true
   generalize i % 3 = j at h3
   match j, h3 with
   | 0, _ => rfl
   | 1, _ => rfl
   | 2, _ => rfl
  have hst := run_storeCells_cells (P := Try.prog) g (q * 3) (Builtin.zeroCells #[.int .i64 0, .int .i64 0, .string ⟨#[]⟩] (n - q)).toList 0 W (fun j hj => by rw [cell_of_row W g _ cells 29 (0, 0) hh]; rw [zero_len] at hj; simp; omega) (fun j _ => blk_frozen hh _) h1
  obtain ⟨m, hm⟩ : ∃ m, n - q = m + 1 := ⟨n - q - 1, by omega⟩
  rw [hm] at hst ⊢
  unfold Builtin.clear_
  simp [go_sem, Try.underlying22]
  rw [hst]
  rfl
def eqE (a b : S29) : Bool := a.f0 == b.f0 && (a.f1 == b.f1 && a.f2.toList == b.f2.toList)
def tailC : S29 → List S29 → List S29
 | _, [] => []
 | p, x :: l => if eqE x p = true then tailC x l else x :: tailC x l
def compF : List S29 → List S29
 | [] => []
 | x :: l => x :: tailC x l
theorem eqE_ways (a b : S29) : (((a.f0 = b.f0) = True ∧ (a.f1 = b.f1) = True ∧ (a.f2.toList = b.f2.toList) = True) ∧ eqE a b = true) ∨ (((a.f0 = b.f0) = False ∨ ((a.f0 = b.f0) = True ∧ (a.f1 = b.f1) = False) ∨ ((a.f0 = b.f0) = True ∧ (a.f1 = b.f1) = True ∧ (a.f2.toList = b.f2.toList) = False)) ∧ eqE a b = false) := by
 unfold eqE
 by_cases h0 : a.f0 = b.f0 <;> by_cases h1 : a.f1 = b.f1 <;> by_cases h2 : a.f2.toList = b.f2.toList <;> simp [h0, h1, h2]
theorem bytes_of_list {a b : ByteArray} (h : a.toList = b.toList) : a = b := by
 rw [ByteArray.toList_eq, ByteArray.toList_eq] at h
 cases a; cases b
 simp only at h
 exact congrArg ByteArray.mk (Array.toList_inj.1 h)
theorem eqE_eq {a b : S29} (h : eqE a b = true) : a = b := by
 unfold eqE at h
 simp only [Bool.and_eq_true, beq_iff_eq] at h
 obtain ⟨h0, h1, h2⟩ := h
 cases a; cases b
 simp only at h0 h1 h2
 rw [h0, h1, bytes_of_list h2]
theorem rd_drop {xs ys : List S29} {q i : Nat} (h : ys.drop q = xs.drop q) (hq : q ≤ i) : rd_T29 ys (i : Int) = rd_T29 xs (i : Int) := by
 unfold rd_T29
 rw [Int.toNat_natCast, List.getD_eq_getElem?_getD, List.getD_eq_getElem?_getD, show i = q + (i - q) by omega, ← List.getElem?_drop, ← List.getElem?_drop, h]
theorem drop_rd (xs : List S29) (m : Nat) (h : m < xs.length) : xs.drop m = rd_T29 xs (m : Int) :: xs.drop (m + 1) := by
 rw [List.drop_eq_getElem_cons h]
 congr 1
 unfold rd_T29
 rw [Int.toNat_natCast, List.getD_eq_getElem?_getD, List.getElem?_eq_getElem h, Option.getD_some]
theorem take_rd (xs : List S29) (m : Nat) (h : m < xs.length) : xs.take (m + 1) = xs.take m ++ [rd_T29 xs (m : Int)] := by
 rw [List.take_succ_eq_append_getElem h]
 congr 2
 unfold rd_T29
 rw [Int.toNat_natCast, List.getD_eq_getElem?_getD, List.getElem?_eq_getElem h, Option.getD_some]
set_option maxHeartbeats 4000000 in
set_option maxRecDepth 100000 in
theorem compact_c (base : Nat) (ok : Nat → Prop) (A : Option Addr) (c : Nat) (xs : List S29) (w : World) (hr : Kd.R k29 29 w base ok (.slice A xs.length c) xs) (hbase : base ≤ w.heap.size) (hl : xs.length ≤ 100000) :
  Calls Try.prog 21 #[.slice A xs.length c] w fun e w' => ∃ v, e = .returned v ∧ Kd.R k29 29 w' base ok v (compF xs) ∧ Below base w w' := by
 have HR := Aside0.mk hr
 clear hr
 by_cases h2 : xs.length < 2
 ·have b1 : decide (xs.length < 2) = true := decide_eq_true h2
  have b1' : decide ((xs.length : Int) < 2) = true := decide_eq_true (by omega)
  have hx : compF xs = xs := by
   rcases xs with _ | ⟨x, _ | ⟨y, l⟩⟩
   ·rfl
   ·rfl
   ·exact absurd h2 (by simp)
  have HX := Aside0.mk hx
  clear h2 hx
  go_enter Try.func21, Try.ntmps21
  go_wp2_with fail
  go_ret
  exact ⟨_, rfl, by rw [HX.out]; exact HR.out, Below.refl _ _⟩
 ·have b1 : decide (xs.length < 2) = false := decide_eq_false h2
  have b1' : decide ((xs.length : Int) < 2) = false := decide_eq_false (by omega)
  obtain ⟨g, c', e', hgb, hgl, cs, hcs⟩ := Kd.R_form HR.out (by omega)
  injection e' with e1 e2 e3
  subst e1; subst e3
  obtain ⟨n, hn⟩ : ∃ n, xs.length = n := ⟨_, rfl⟩
  have HN := Aside0.mk hn
  rw [hn] at HR h2 hl b1 b1' ⊢
  clear e2 hn hcs cs
  go_enter Try.func21, Try.ntmps21
  go_wp2_with fail
  go_loopw [3] (fun kv wr => ∃ m : Nat, kv = .int .i64 ((m : Int) + 1) ∧ m + 1 ≤ n ∧ Aside0 (compF xs = xs.take (m + 1) ++ tailC (rd_T29 xs (m : Int)) (xs.drop (m + 1))) ∧ Aside0 (∃ d, wr = w.drewN d)) (fun kv _ => n + 1 - (intOf kv).toNat)
  case atStart => exact ⟨0, rfl, by omega, ⟨by have := HN.out; rcases xs with _ | ⟨x, l⟩; exact absurd this (by simp; omega); rfl⟩, ⟨⟨0, rfl⟩⟩⟩
  case round =>
   obtain ⟨m, rfl, hmn, HC, HW⟩ := hrel
   obtain ⟨d, rfl⟩ := HW.out
   clear HW
   by_cases hlt : m + 1 < n
   ·have b2 : decide ((m : Int) + 1 < (n : Int)) = true := decide_eq_true (by omega)
    obtain ⟨x0, x1, x2, _, _, _⟩ := row_E (Kd.R_drewN HR.out d) ((m + 1 : Nat) : Int) (by omega) (by omega)
    obtain ⟨y0, y1, y2, _, _, _⟩ := row_E (Kd.R_drewN HR.out d) (m : Int) (by omega) (by omega)
    rw [Int.toNat_natCast] at x0 x1 x2 y0 y1 y2
    obtain ⟨a, ha⟩ : ∃ a, rd_T29 xs ((m + 1 : Nat) : Int) = a := ⟨_, rfl⟩
    obtain ⟨b, hb⟩ : ∃ b, rd_T29 xs (m : Int) = b := ⟨_, rfl⟩
    rw [ha] at x0 x1 x2
    rw [hb] at y0 y1 y2
    have e0 : ((m : Int) + 1).toNat = m + 1 := by omega
    have e1 : IntKind.i64.wrap ((m : Int) + 1 - 1) = (m : Int) := (IntWalk.i64_in _ (by omega)).trans (by omega)
    have e2 : IntKind.i64.wrap (m : Int) = (m : Int) := IntWalk.i64_in _ (by omega)
    have p1 := eq_true (show 0 ≤ (m : Int) + 1 by omega)
    have p2 := eq_true (show (m : Int) + 1 < (n : Int) by omega)
    have p3 := eq_true (show 0 ≤ (m : Int) by omega)
    have p4 := eq_true (show (m : Int) < (n : Int) by omega)
    have p5 := eq_true (show m < n by omega)
    have HA := Aside0.mk ha
    have HBb := Aside0.mk hb
    have HLT := Aside0.mk hlt
    clear ha hb hlt
    rcases eqE_ways a b with ⟨⟨q0, q1, q2⟩, hq⟩ | ⟨hne, hq⟩
    ·as_aux_lemma =>
     have HC2 := Aside0.mk (show compF xs = xs.take (m + 1) ++ tailC (rd_T29 xs ((m + 1 : Nat) : Int)) (xs.drop (m + 1 + 1)) from by
      rw [HC.out, drop_rd xs (m + 1) (by rw [HN.out]; exact HLT.out), HA.out, HBb.out]
      simp only [tailC]
      rw [if_pos hq, eqE_eq hq])
     have hcap := (Kd.R_reads' HR.out).2.1
     have hlt := HLT.out
     have p6 : (c = m + 1) = False := eq_false (by omega)
     have HRd := Aside0.mk (Kd.R_drewN HR.out (d + 1))
     have HBd := Aside0.mk (pw_below_drewN (Below.refl base w) (d + 1))
     clear hq HC
     go_wp2_with fail
     refine start_ (n := 10) (S := fun w' => w'.cell? ⟨g, (m + 1) * 3, none⟩ = some (.int .i64 a.f0) ∧ w'.cell? ⟨g, (m + 1) * 3 + 1, none⟩ = some (.int .i64 a.f1) ∧ w'.cell? ⟨g, (m + 1) * 3 + 2, none⟩ = some (.string a.f2) ∧ w'.cell? ⟨g, m * 3, none⟩ = some (.int .i64 b.f0) ∧ w'.cell? ⟨g, m * 3 + 1, none⟩ = some (.int .i64 b.f1) ∧ w'.cell? ⟨g, m * 3 + 2, none⟩ = some (.string b.f2)) (ds := []) #[false, false, false, false, false, false, false, false, false, false] (by kernel_rfl) rfl rfl ⟨x0, x1, x2, y0, y1, y2⟩ (fun hHeld => ?_)
     refine pure_ (i := 0) (N := some 16) (v := ?_) (a' := ?_) #[true, false, false, false, false, false, false, false, false, false] rfl rfl (by kernel_rfl) (fun _ _ _ h => h) (Or.inl ⟨by rfl, ?_⟩) ?_ ?_
     rotate_left
     ·intro w'
      go_simp
      with_reducible rfl
     rotate_left
     ·simp only [Act.put, List.setIfInBounds_toArray, List.set_cons_zero, List.set_cons_succ, i64_w, i32_w]
      rfl
     refine pure_ (i := 1) (N := some 17) (v := ?_) (a' := ?_) #[true, true, false, false, false, false, false, false, false, false] rfl rfl (by kernel_rfl) (fun _ _ _ h => h) (Or.inl ⟨by rfl, ?_⟩) ?_ ?_
     rotate_left
     ·intro w'
      go_simp
      with_reducible rfl
     rotate_left
     ·simp only [Act.put, List.setIfInBounds_toArray, List.set_cons_zero, List.set_cons_succ, i64_w, i32_w]
      rfl
     refine pure_ (i := 2) (N := some 18) (v := ?_) (a' := ?_) #[true, true, true, false, false, false, false, false, false, false] rfl rfl (by kernel_rfl) (fun _ _ _ h => h) (Or.inl ⟨by rfl, ?_⟩) ?_ ?_
     rotate_left
     ·intro w'
      go_simp
      with_reducible rfl
     rotate_left
     ·simp only [Act.put, List.setIfInBounds_toArray, List.set_cons_zero, List.set_cons_succ, i64_w, i32_w]
      rfl
     refine pure_ (i := 4) (N := some 20) (v := ?_) (a' := ?_) #[true, true, true, false, true, false, false, false, false, false] rfl rfl (by kernel_rfl) (fun _ _ _ h => h) (Or.inl ⟨by rfl, ?_⟩) ?_ ?_
     rotate_left
     ·intro w'
      go_simp
      with_reducible rfl
     rotate_left
     ·simp only [Act.put, List.setIfInBounds_toArray, List.set_cons_zero, List.set_cons_succ, i64_w, i32_w]
      rfl
     refine pure_ (i := 5) (N := some 21) (v := ?_) (a' := ?_) #[true, true, true, false, true, true, false, false, false, false] rfl rfl (by kernel_rfl) (fun _ _ _ h => h) (Or.inl ⟨by rfl, ?_⟩) ?_ ?_
     rotate_left
     ·intro w'
      go_simp
      with_reducible rfl
     rotate_left
     ·simp only [Act.put, List.setIfInBounds_toArray, List.set_cons_zero, List.set_cons_succ, i64_w, i32_w]
      rfl
     refine pure_ (i := 6) (N := some 22) (v := ?_) (a' := ?_) #[true, true, true, false, true, true, true, false, false, false] rfl rfl (by kernel_rfl) (fun _ _ _ h => h) (Or.inl ⟨by rfl, ?_⟩) ?_ ?_
     rotate_left
     ·intro w'
      go_simp
      with_reducible rfl
     rotate_left
     ·simp only [Act.put, List.setIfInBounds_toArray, List.set_cons_zero, List.set_cons_succ, i64_w, i32_w]
      rfl
     refine pure_ (i := 7) (N := some 23) (v := ?_) (a' := ?_) #[true, true, true, false, true, true, true, true, false, false] rfl rfl (by kernel_rfl) (fun _ _ _ h => h) (Or.inl ⟨by rfl, ?_⟩) ?_ ?_
     rotate_left
     ·intro w'
      go_simp
      with_reducible rfl
     rotate_left
     ·simp only [Act.put, List.setIfInBounds_toArray, List.set_cons_zero, List.set_cons_succ, i64_w, i32_w]
      rfl
     refine take_ (i := 3) (N := some 19) (v := ?_) (a' := ?_) #[true, true, true, true, true, true, true, true, false, false] rfl rfl (by kernel_rfl) (fun _ _ _ h => h) (Or.inl ⟨by rfl, ?_⟩) hHeld ?_ ?_
     rotate_left
     ·rintro w' ⟨s0, s1, s2, s3, s4, s5⟩
      go_simp
      with_reducible rfl
     rotate_left
     ·simp only [Act.put, List.setIfInBounds_toArray, List.set_cons_zero, List.set_cons_succ, i64_w, i32_w]
      rfl
     refine take_ (i := 8) (N := some 24) (v := ?_) (a' := ?_) #[true, true, true, true, true, true, true, true, true, false] rfl rfl (by kernel_rfl) (fun _ _ _ h => h) (Or.inl ⟨by rfl, ?_⟩) hHeld ?_ ?_
     rotate_left
     ·rintro w' ⟨s0, s1, s2, s3, s4, s5⟩
      go_simp
      with_reducible rfl
     rotate_left
     ·simp only [Act.put, List.setIfInBounds_toArray, List.set_cons_zero, List.set_cons_succ, i64_w, i32_w]
      rfl
     refine pure_ (i := 9) (N := some 25) (v := ?_) (a' := ?_) #[true, true, true, true, true, true, true, true, true, true] rfl rfl (by kernel_rfl) (fun _ _ _ h => h) (Or.inl ⟨by rfl, ?_⟩) ?_ ?_
     rotate_left
     ·intro w'
      go_simp
      with_reducible rfl
     rotate_left
     ·simp only [Act.put, List.setIfInBounds_toArray, List.set_cons_zero, List.set_cons_succ, i64_w, i32_w]
      rfl
     refine done_ (by kernel_rfl) ?_
     go_wp2_with fail
     clear x0 x1 x2 y0 y1 y2 q0 q1 q2
     go_loopw [3, 5] (fun kv jv wr => ∃ (q j : Nat) (ys : List S29), kv = .int .i64 (q : Int) ∧ jv = .int .i64 ((j : Int) + 1) ∧ q ≤ m + 1 + j ∧ m + 1 + j + 1 ≤ n ∧ Aside0 (Kd.R k29 29 wr base ok (.slice (some ⟨g, 0, none⟩) n c) ys) ∧ Aside0 (Below base w wr) ∧ Aside0 (ys.drop q = xs.drop q) ∧ Aside0 (compF xs = ys.take q ++ tailC (rd_T29 xs ((m + 1 + j : Nat) : Int)) (xs.drop (m + 1 + j + 1)))) (fun _ jv _ => n - (intOf jv).toNat)
     case atStart => exact ⟨m + 1, 0, xs, rfl, rfl, by omega, by omega, HRd, HBd, ⟨rfl⟩, HC2⟩
     case round =>
      clear HRd HBd HC2
      obtain ⟨q, j, ys, rfl, rfl, hqj, hjn, HRy, HBy, HD, HT⟩ := hrel
      by_cases hl3 : m + 1 + j + 1 < n
      ·have b3 : decide ((j : Int) + 1 < ((n - (m + 1) : Nat) : Int)) = true := decide_eq_true (by omega)
       obtain ⟨x0, x1, x2, _, _, _⟩ := row_E (Kd.R_drew HRy.out) ((m + 1 + j + 1 : Nat) : Int) (by omega) (by omega)
       obtain ⟨y0, y1, y2, _, _, _⟩ := row_E (Kd.R_drew HRy.out) ((m + 1 + j : Nat) : Int) (by omega) (by omega)
       rw [Int.toNat_natCast, rd_drop HD.out (by omega)] at x0 x1 x2 y0 y1 y2
       obtain ⟨a2, ha2⟩ : ∃ a2, rd_T29 xs ((m + 1 + j + 1 : Nat) : Int) = a2 := ⟨_, rfl⟩
       obtain ⟨b2_, hb2⟩ : ∃ b2_, rd_T29 xs ((m + 1 + j : Nat) : Int) = b2_ := ⟨_, rfl⟩
       rw [ha2, show (m + 1 + j + 1) * 3 = (m + 1) * 3 + (j + 1) * 3 by omega] at x0 x1 x2
       rw [hb2, show (m + 1 + j) * 3 = (m + 1) * 3 + j * 3 by omega] at y0 y1 y2
       have HA2 := Aside0.mk ha2
       have HB2 := Aside0.mk hb2
       have f1 : IntKind.i64.wrap ((j : Int) + 1 - 1) = (j : Int) := (IntWalk.i64_in _ (by omega)).trans (by omega)
       have f2 : IntKind.i64.wrap (j : Int) = (j : Int) := IntWalk.i64_in _ (by omega)
       have f3 : IntKind.i64.wrap ((j : Int) + 1 + 1) = ((j + 1 : Nat) : Int) + 1 := (IntWalk.i64_in _ (by omega)).trans (by omega)
       have f4 : IntKind.i64.wrap ((q : Int) + 1) = ((q + 1 : Nat) : Int) := (IntWalk.i64_in _ (by omega)).trans (by omega)
       have f5 : ((j : Int) + 1).toNat = j + 1 := by omega
       have r1 := eq_true (show 0 ≤ (j : Int) + 1 by omega)
       have r2 := eq_true (show (j : Int) + 1 < ((n - (m + 1) : Nat) : Int) by omega)
       have r3 := eq_true (show (j : Int) < ((n - (m + 1) : Nat) : Int) by omega)
       have r4 := eq_true (show j < n - (m + 1) by omega)
       have HL3 := Aside0.mk hl3
       clear ha2 hb2 hl3
       rcases eqE_ways a2 b2_ with ⟨⟨s0, s1, s2⟩, hq2⟩ | ⟨hne2, hq2⟩
       ·as_aux_lemma =>
        have HT2 := Aside0.mk (show compF xs = ys.take q ++ tailC (rd_T29 xs ((m + 1 + (j + 1) : Nat) : Int)) (xs.drop (m + 1 + (j + 1) + 1)) from by
         rw [HT.out, drop_rd xs (m + 1 + j + 1) (by rw [HN.out]; exact HL3.out), HA2.out, HB2.out]
         simp only [tailC]
         rw [if_pos hq2, show m + 1 + (j + 1) = m + 1 + j + 1 by omega, HA2.out]
         first | done | rw [eqE_eq hq2] | rw [← eqE_eq hq2])
        clear hq2 HT
        go_wp2_with fail
        refine start_ (n := 10) (S := fun w' => w'.cell? ⟨g, (m + 1) * 3 + (j + 1) * 3, none⟩ = some (.int .i64 a2.f0) ∧ w'.cell? ⟨g, (m + 1) * 3 + (j + 1) * 3 + 1, none⟩ = some (.int .i64 a2.f1) ∧ w'.cell? ⟨g, (m + 1) * 3 + (j + 1) * 3 + 2, none⟩ = some (.string a2.f2) ∧ w'.cell? ⟨g, (m + 1) * 3 + j * 3, none⟩ = some (.int .i64 b2_.f0) ∧ w'.cell? ⟨g, (m + 1) * 3 + j * 3 + 1, none⟩ = some (.int .i64 b2_.f1) ∧ w'.cell? ⟨g, (m + 1) * 3 + j * 3 + 2, none⟩ = some (.string b2_.f2)) (ds := []) #[false, false, false, false, false, false, false, false, false, false] (by kernel_rfl) rfl rfl ⟨x0, x1, x2, y0, y1, y2⟩ (fun hHeld => ?_)
        refine pure_ (i := 0) (N := some 35) (v := ?_) (a' := ?_) #[true, false, false, false, false, false, false, false, false, false] rfl rfl (by kernel_rfl) (fun _ _ _ h => h) (Or.inl ⟨by rfl, ?_⟩) ?_ ?_
        rotate_left
        ·intro w'
         go_simp
         with_reducible rfl
        rotate_left
        ·simp only [Act.put, List.setIfInBounds_toArray, List.set_cons_zero, List.set_cons_succ, i64_w, i32_w]
         rfl
        refine pure_ (i := 1) (N := some 36) (v := ?_) (a' := ?_) #[true, true, false, false, false, false, false, false, false, false] rfl rfl (by kernel_rfl) (fun _ _ _ h => h) (Or.inl ⟨by rfl, ?_⟩) ?_ ?_
        rotate_left
        ·intro w'
         go_simp
         with_reducible rfl
        rotate_left
        ·simp only [Act.put, List.setIfInBounds_toArray, List.set_cons_zero, List.set_cons_succ, i64_w, i32_w]
         rfl
        refine pure_ (i := 2) (N := some 37) (v := ?_) (a' := ?_) #[true, true, true, false, false, false, false, false, false, false] rfl rfl (by kernel_rfl) (fun _ _ _ h => h) (Or.inl ⟨by rfl, ?_⟩) ?_ ?_
        rotate_left
        ·intro w'
         go_simp
         with_reducible rfl
        rotate_left
        ·simp only [Act.put, List.setIfInBounds_toArray, List.set_cons_zero, List.set_cons_succ, i64_w, i32_w]
         rfl
        refine pure_ (i := 4) (N := some 39) (v := ?_) (a' := ?_) #[true, true, true, false, true, false, false, false, false, false] rfl rfl (by kernel_rfl) (fun _ _ _ h => h) (Or.inl ⟨by rfl, ?_⟩) ?_ ?_
        rotate_left
        ·intro w'
         go_simp
         with_reducible rfl
        rotate_left
        ·simp only [Act.put, List.setIfInBounds_toArray, List.set_cons_zero, List.set_cons_succ, i64_w, i32_w]
         rfl
        refine pure_ (i := 5) (N := some 40) (v := ?_) (a' := ?_) #[true, true, true, false, true, true, false, false, false, false] rfl rfl (by kernel_rfl) (fun _ _ _ h => h) (Or.inl ⟨by rfl, ?_⟩) ?_ ?_
        rotate_left
        ·intro w'
         go_simp
         with_reducible rfl
        rotate_left
        ·simp only [Act.put, List.setIfInBounds_toArray, List.set_cons_zero, List.set_cons_succ, i64_w, i32_w]
         rfl
        refine pure_ (i := 6) (N := some 41) (v := ?_) (a' := ?_) #[true, true, true, false, true, true, true, false, false, false] rfl rfl (by kernel_rfl) (fun _ _ _ h => h) (Or.inl ⟨by rfl, ?_⟩) ?_ ?_
        rotate_left
        ·intro w'
         go_simp
         with_reducible rfl
        rotate_left
        ·simp only [Act.put, List.setIfInBounds_toArray, List.set_cons_zero, List.set_cons_succ, i64_w, i32_w]
         rfl
        refine pure_ (i := 7) (N := some 42) (v := ?_) (a' := ?_) #[true, true, true, false, true, true, true, true, false, false] rfl rfl (by kernel_rfl) (fun _ _ _ h => h) (Or.inl ⟨by rfl, ?_⟩) ?_ ?_
        rotate_left
        ·intro w'
         go_simp
         with_reducible rfl
        rotate_left
        ·simp only [Act.put, List.setIfInBounds_toArray, List.set_cons_zero, List.set_cons_succ, i64_w, i32_w]
         rfl
        refine take_ (i := 3) (N := some 38) (v := ?_) (a' := ?_) #[true, true, true, true, true, true, true, true, false, false] rfl rfl (by kernel_rfl) (fun _ _ _ h => h) (Or.inl ⟨by rfl, ?_⟩) hHeld ?_ ?_
        rotate_left
        ·rintro w' ⟨s0, s1, s2, s3, s4, s5⟩
         go_simp
         with_reducible rfl
        rotate_left
        ·simp only [Act.put, List.setIfInBounds_toArray, List.set_cons_zero, List.set_cons_succ, i64_w, i32_w]
         rfl
        refine take_ (i := 8) (N := some 43) (v := ?_) (a' := ?_) #[true, true, true, true, true, true, true, true, true, false] rfl rfl (by kernel_rfl) (fun _ _ _ h => h) (Or.inl ⟨by rfl, ?_⟩) hHeld ?_ ?_
        rotate_left
        ·rintro w' ⟨s0, s1, s2, s3, s4, s5⟩
         go_simp
         with_reducible rfl
        rotate_left
        ·simp only [Act.put, List.setIfInBounds_toArray, List.set_cons_zero, List.set_cons_succ, i64_w, i32_w]
         rfl
        refine pure_ (i := 9) (N := some 44) (v := ?_) (a' := ?_) #[true, true, true, true, true, true, true, true, true, true] rfl rfl (by kernel_rfl) (fun _ _ _ h => h) (Or.inl ⟨by rfl, ?_⟩) ?_ ?_
        rotate_left
        ·intro w'
         go_simp
         with_reducible rfl
        rotate_left
        ·simp only [Act.put, List.setIfInBounds_toArray, List.set_cons_zero, List.set_cons_succ, i64_w, i32_w]
         rfl
        refine done_ (by kernel_rfl) ?_
        go_wp2_with fail
        go_roundw
        case rel => exact ⟨q, j + 1, ys, rfl, (by first | rfl | (congr 1; omega)), by omega, (by have := HL3.out; omega), ⟨Kd.R_drew HRy.out⟩, ⟨below_drew1 HBy.out⟩, HD, HT2⟩
        case measure => have := HL3.out; simp [intOf]; omega
       ·have HT2 := Aside0.mk (show compF xs = (ys.set q a2).take (q + 1) ++ tailC (rd_T29 xs ((m + 1 + (j + 1) : Nat) : Int)) (xs.drop (m + 1 + (j + 1) + 1)) from by
         have hyl : ys.length = n := (Kd.R_reads' HRy.out).1.symm
         have hql : q < ys.length := by have := HL3.out; omega
         rw [HT.out, drop_rd xs (m + 1 + j + 1) (by rw [HN.out]; exact HL3.out), HA2.out, HB2.out]
         simp only [tailC]
         rw [if_neg (by rw [hq2]; decide), show m + 1 + (j + 1) = m + 1 + j + 1 by omega, HA2.out]
         rw [List.take_succ_eq_append_getElem (by rw [List.length_set]; exact hql), List.take_set_of_le (Nat.le_refl q), List.getElem_set_self]
         simp)
        have HD2 := Aside0.mk (show (ys.set q a2).drop (q + 1) = xs.drop (q + 1) from by
         rw [List.drop_set_of_lt (by omega), ← List.drop_drop, HD.out, List.drop_drop])
        have hset := R_set29 (Kd.R_drew HRy.out) (q : Int) (by omega) (by have := HL3.out; omega) a2
        obtain ⟨z0, z1, z2, z3, z4, z5⟩ := row_E (Kd.R_drew HRy.out) (q : Int) (by omega) (by have := HL3.out; omega)
        rw [Int.toNat_natCast] at hset z0 z1 z2 z3 z4 z5
        have HS := Aside0.mk hset.1
        have HBS := Aside0.mk (below_set3 (below_drew1 HBy.out) hgb (q * 3) (q * 3 + 1) (q * 3 + 2) (.int .i64 a2.f0) (.int .i64 a2.f1) (.string a2.f2))
        have t1 := eq_true (show 0 ≤ (q : Int) by omega)
        have t2 := eq_true (show (q : Int) < (n : Int) by have := HL3.out; omega)
        have t3 := eq_true (show q < n by have := HL3.out; omega)
        clear hq2 HT hset
        rcases hne2 with s0 | ⟨s0, s1⟩ | ⟨s0, s1, s2⟩
        all_goals
         as_aux_lemma =>
         go_wp2_with fail
         refine start_ (n := 10) (S := fun w' => w'.cell? ⟨g, (m + 1) * 3 + (j + 1) * 3, none⟩ = some (.int .i64 a2.f0) ∧ w'.cell? ⟨g, (m + 1) * 3 + (j + 1) * 3 + 1, none⟩ = some (.int .i64 a2.f1) ∧ w'.cell? ⟨g, (m + 1) * 3 + (j + 1) * 3 + 2, none⟩ = some (.string a2.f2) ∧ w'.cell? ⟨g, (m + 1) * 3 + j * 3, none⟩ = some (.int .i64 b2_.f0) ∧ w'.cell? ⟨g, (m + 1) * 3 + j * 3 + 1, none⟩ = some (.int .i64 b2_.f1) ∧ w'.cell? ⟨g, (m + 1) * 3 + j * 3 + 2, none⟩ = some (.string b2_.f2)) (ds := []) #[false, false, false, false, false, false, false, false, false, false] (by kernel_rfl) rfl rfl ⟨x0, x1, x2, y0, y1, y2⟩ (fun hHeld => ?_)
         generalize wr.drew = w0 at x0 x1 x2 y0 y1 y2 z0 z1 z2 z3 z4 z5 HS HBS hHeld ⊢
         refine pure_ (i := 0) (N := some 35) (v := ?_) (a' := ?_) #[true, false, false, false, false, false, false, false, false, false] rfl rfl (by kernel_rfl) (fun _ _ _ h => h) (Or.inl ⟨by rfl, ?_⟩) ?_ ?_
         rotate_left
         ·intro w'
          go_simp
          with_reducible rfl
         rotate_left
         ·simp only [Act.put, List.setIfInBounds_toArray, List.set_cons_zero, List.set_cons_succ, i64_w, i32_w]
          rfl
         refine pure_ (i := 1) (N := some 36) (v := ?_) (a' := ?_) #[true, true, false, false, false, false, false, false, false, false] rfl rfl (by kernel_rfl) (fun _ _ _ h => h) (Or.inl ⟨by rfl, ?_⟩) ?_ ?_
         rotate_left
         ·intro w'
          go_simp
          with_reducible rfl
         rotate_left
         ·simp only [Act.put, List.setIfInBounds_toArray, List.set_cons_zero, List.set_cons_succ, i64_w, i32_w]
          rfl
         refine pure_ (i := 2) (N := some 37) (v := ?_) (a' := ?_) #[true, true, true, false, false, false, false, false, false, false] rfl rfl (by kernel_rfl) (fun _ _ _ h => h) (Or.inl ⟨by rfl, ?_⟩) ?_ ?_
         rotate_left
         ·intro w'
          go_simp
          with_reducible rfl
         rotate_left
         ·simp only [Act.put, List.setIfInBounds_toArray, List.set_cons_zero, List.set_cons_succ, i64_w, i32_w]
          rfl
         refine pure_ (i := 4) (N := some 39) (v := ?_) (a' := ?_) #[true, true, true, false, true, false, false, false, false, false] rfl rfl (by kernel_rfl) (fun _ _ _ h => h) (Or.inl ⟨by rfl, ?_⟩) ?_ ?_
         rotate_left
         ·intro w'
          go_simp
          with_reducible rfl
         rotate_left
         ·simp only [Act.put, List.setIfInBounds_toArray, List.set_cons_zero, List.set_cons_succ, i64_w, i32_w]
          rfl
         refine pure_ (i := 5) (N := some 40) (v := ?_) (a' := ?_) #[true, true, true, false, true, true, false, false, false, false] rfl rfl (by kernel_rfl) (fun _ _ _ h => h) (Or.inl ⟨by rfl, ?_⟩) ?_ ?_
         rotate_left
         ·intro w'
          go_simp
          with_reducible rfl
         rotate_left
         ·simp only [Act.put, List.setIfInBounds_toArray, List.set_cons_zero, List.set_cons_succ, i64_w, i32_w]
          rfl
         refine pure_ (i := 6) (N := some 41) (v := ?_) (a' := ?_) #[true, true, true, false, true, true, true, false, false, false] rfl rfl (by kernel_rfl) (fun _ _ _ h => h) (Or.inl ⟨by rfl, ?_⟩) ?_ ?_
         rotate_left
         ·intro w'
          go_simp
          with_reducible rfl
         rotate_left
         ·simp only [Act.put, List.setIfInBounds_toArray, List.set_cons_zero, List.set_cons_succ, i64_w, i32_w]
          rfl
         refine pure_ (i := 7) (N := some 42) (v := ?_) (a' := ?_) #[true, true, true, false, true, true, true, true, false, false] rfl rfl (by kernel_rfl) (fun _ _ _ h => h) (Or.inl ⟨by rfl, ?_⟩) ?_ ?_
         rotate_left
         ·intro w'
          go_simp
          with_reducible rfl
         rotate_left
         ·simp only [Act.put, List.setIfInBounds_toArray, List.set_cons_zero, List.set_cons_succ, i64_w, i32_w]
          rfl
         refine take_ (i := 3) (N := some 38) (v := ?_) (a' := ?_) #[true, true, true, true, true, true, true, true, false, false] rfl rfl (by kernel_rfl) (fun _ _ _ h => h) (Or.inl ⟨by rfl, ?_⟩) hHeld ?_ ?_
         rotate_left
         ·rintro w' ⟨s0, s1, s2, s3, s4, s5⟩
          go_simp
          with_reducible rfl
         rotate_left
         ·simp only [Act.put, List.setIfInBounds_toArray, List.set_cons_zero, List.set_cons_succ, i64_w, i32_w]
          rfl
         refine take_ (i := 8) (N := some 43) (v := ?_) (a' := ?_) #[true, true, true, true, true, true, true, true, true, false] rfl rfl (by kernel_rfl) (fun _ _ _ h => h) (Or.inl ⟨by rfl, ?_⟩) hHeld ?_ ?_
         rotate_left
         ·rintro w' ⟨s0, s1, s2, s3, s4, s5⟩
          go_simp
          with_reducible rfl
         rotate_left
         ·simp only [Act.put, List.setIfInBounds_toArray, List.set_cons_zero, List.set_cons_succ, i64_w, i32_w]
          rfl
         refine pure_ (i := 9) (N := some 44) (v := ?_) (a' := ?_) #[true, true, true, true, true, true, true, true, true, true] rfl rfl (by kernel_rfl) (fun _ _ _ h => h) (Or.inl ⟨by rfl, ?_⟩) ?_ ?_
         rotate_left
         ·intro w'
          go_simp
          with_reducible rfl
         rotate_left
         ·simp only [Act.put, List.setIfInBounds_toArray, List.set_cons_zero, List.set_cons_succ, i64_w, i32_w]
          rfl
         refine done_ (by kernel_rfl) ?_
         go_wp2_with fail
         go_roundw
         case rel => exact ⟨q + 1, j + 1, ys.set q a2, rfl, (by first | rfl | (congr 1; omega)), by omega, (by have := HL3.out; omega), HS, HBS, HD2, HT2⟩
         case measure => have := HL3.out; simp [intOf]; omega
      ·have b3 : decide ((j : Int) + 1 < ((n - (m + 1) : Nat) : Int)) = false := decide_eq_false (by omega)
       have HF := Aside0.mk (show compF xs = ys.take q from by
        rw [HT.out, List.drop_eq_nil_of_le (by have := HN.out; omega)]
        simp [tailC])
       have hclr := clear_run HRy.out (q := q) (cc := c - q) (by omega) 0
       have hcr := clear_row HRy.out (q := q) (by omega) (Builtin.zeroCells #[.int .i64 0, .int .i64 0, .string ⟨#[]⟩] (n - q)).toList (zero_len _)
       have HCR := Aside0.mk hcr.1
       have HCG := Aside0.mk hcr.2
       have r1 : (c = q) = False := eq_false (by omega)
       have r2 : ((q : Int) ≤ (n : Int)) = True := eq_true (by omega)
       have r3 : (q ≤ n) = True := eq_true (by omega)
       have r4 : ((q : Int) ≤ (c : Int)) = True := eq_true (by omega)
       have r5 : (q ≤ c) = True := eq_true (by omega)
       clear hcr HT hl3
       go_wp2_with fail
       go_ret
       exact ⟨_, rfl, by rw [HF.out]; exact HCR.out, HBy.out.grown HCG.out (Nat.le_trans hbase HBy.out.size) (fun k hk => by injection hk with hk; omega)⟩
    ·have HC2 := Aside0.mk (show compF xs = xs.take (m + 1 + 1) ++ tailC (rd_T29 xs ((m + 1 : Nat) : Int)) (xs.drop (m + 1 + 1)) from by
      rw [HC.out, drop_rd xs (m + 1) (by rw [HN.out]; exact HLT.out), take_rd xs (m + 1) (by rw [HN.out]; exact HLT.out), HA.out, HBb.out]
      simp only [tailC]
      rw [if_neg (by rw [hq]; decide)]
      simp)
     have e3 : IntKind.i64.wrap ((m : Int) + 1 + 1) = ((m + 1 : Nat) : Int) + 1 := (IntWalk.i64_in _ (by omega)).trans (by omega)
     clear hq HC
     rcases hne with q0 | ⟨q0, q1⟩ | ⟨q0, q1, q2⟩
     all_goals
      as_aux_lemma =>
      go_wp2_with fail
      refine start_ (n := 10) (S := fun w' => w'.cell? ⟨g, (m + 1) * 3, none⟩ = some (.int .i64 a.f0) ∧ w'.cell? ⟨g, (m + 1) * 3 + 1, none⟩ = some (.int .i64 a.f1) ∧ w'.cell? ⟨g, (m + 1) * 3 + 2, none⟩ = some (.string a.f2) ∧ w'.cell? ⟨g, m * 3, none⟩ = some (.int .i64 b.f0) ∧ w'.cell? ⟨g, m * 3 + 1, none⟩ = some (.int .i64 b.f1) ∧ w'.cell? ⟨g, m * 3 + 2, none⟩ = some (.string b.f2)) (ds := []) #[false, false, false, false, false, false, false, false, false, false] (by kernel_rfl) rfl rfl ⟨x0, x1, x2, y0, y1, y2⟩ (fun hHeld => ?_)
      refine pure_ (i := 0) (N := some 16) (v := ?_) (a' := ?_) #[true, false, false, false, false, false, false, false, false, false] rfl rfl (by kernel_rfl) (fun _ _ _ h => h) (Or.inl ⟨by rfl, ?_⟩) ?_ ?_
      rotate_left
      ·intro w'
       go_simp
       with_reducible rfl
      rotate_left
      ·simp only [Act.put, List.setIfInBounds_toArray, List.set_cons_zero, List.set_cons_succ, i64_w, i32_w]
       rfl
      refine pure_ (i := 1) (N := some 17) (v := ?_) (a' := ?_) #[true, true, false, false, false, false, false, false, false, false] rfl rfl (by kernel_rfl) (fun _ _ _ h => h) (Or.inl ⟨by rfl, ?_⟩) ?_ ?_
      rotate_left
      ·intro w'
       go_simp
       with_reducible rfl
      rotate_left
      ·simp only [Act.put, List.setIfInBounds_toArray, List.set_cons_zero, List.set_cons_succ, i64_w, i32_w]
       rfl
      refine pure_ (i := 2) (N := some 18) (v := ?_) (a' := ?_) #[true, true, true, false, false, false, false, false, false, false] rfl rfl (by kernel_rfl) (fun _ _ _ h => h) (Or.inl ⟨by rfl, ?_⟩) ?_ ?_
      rotate_left
      ·intro w'
       go_simp
       with_reducible rfl
      rotate_left
      ·simp only [Act.put, List.setIfInBounds_toArray, List.set_cons_zero, List.set_cons_succ, i64_w, i32_w]
       rfl
      refine pure_ (i := 4) (N := some 20) (v := ?_) (a' := ?_) #[true, true, true, false, true, false, false, false, false, false] rfl rfl (by kernel_rfl) (fun _ _ _ h => h) (Or.inl ⟨by rfl, ?_⟩) ?_ ?_
      rotate_left
      ·intro w'
       go_simp
       with_reducible rfl
      rotate_left
      ·simp only [Act.put, List.setIfInBounds_toArray, List.set_cons_zero, List.set_cons_succ, i64_w, i32_w]
       rfl
      refine pure_ (i := 5) (N := some 21) (v := ?_) (a' := ?_) #[true, true, true, false, true, true, false, false, false, false] rfl rfl (by kernel_rfl) (fun _ _ _ h => h) (Or.inl ⟨by rfl, ?_⟩) ?_ ?_
      rotate_left
      ·intro w'
       go_simp
       with_reducible rfl
      rotate_left
      ·simp only [Act.put, List.setIfInBounds_toArray, List.set_cons_zero, List.set_cons_succ, i64_w, i32_w]
       rfl
      refine pure_ (i := 6) (N := some 22) (v := ?_) (a' := ?_) #[true, true, true, false, true, true, true, false, false, false] rfl rfl (by kernel_rfl) (fun _ _ _ h => h) (Or.inl ⟨by rfl, ?_⟩) ?_ ?_
      rotate_left
      ·intro w'
       go_simp
       with_reducible rfl
      rotate_left
      ·simp only [Act.put, List.setIfInBounds_toArray, List.set_cons_zero, List.set_cons_succ, i64_w, i32_w]
       rfl
      refine pure_ (i := 7) (N := some 23) (v := ?_) (a' := ?_) #[true, true, true, false, true, true, true, true, false, false] rfl rfl (by kernel_rfl) (fun _ _ _ h => h) (Or.inl ⟨by rfl, ?_⟩) ?_ ?_
      rotate_left
      ·intro w'
       go_simp
       with_reducible rfl
      rotate_left
      ·simp only [Act.put, List.setIfInBounds_toArray, List.set_cons_zero, List.set_cons_succ, i64_w, i32_w]
       rfl
      refine take_ (i := 3) (N := some 19) (v := ?_) (a' := ?_) #[true, true, true, true, true, true, true, true, false, false] rfl rfl (by kernel_rfl) (fun _ _ _ h => h) (Or.inl ⟨by rfl, ?_⟩) hHeld ?_ ?_
      rotate_left
      ·rintro w' ⟨s0, s1, s2, s3, s4, s5⟩
       go_simp
       with_reducible rfl
      rotate_left
      ·simp only [Act.put, List.setIfInBounds_toArray, List.set_cons_zero, List.set_cons_succ, i64_w, i32_w]
       rfl
      refine take_ (i := 8) (N := some 24) (v := ?_) (a' := ?_) #[true, true, true, true, true, true, true, true, true, false] rfl rfl (by kernel_rfl) (fun _ _ _ h => h) (Or.inl ⟨by rfl, ?_⟩) hHeld ?_ ?_
      rotate_left
      ·rintro w' ⟨s0, s1, s2, s3, s4, s5⟩
       go_simp
       with_reducible rfl
      rotate_left
      ·simp only [Act.put, List.setIfInBounds_toArray, List.set_cons_zero, List.set_cons_succ, i64_w, i32_w]
       rfl
      refine pure_ (i := 9) (N := some 25) (v := ?_) (a' := ?_) #[true, true, true, true, true, true, true, true, true, true] rfl rfl (by kernel_rfl) (fun _ _ _ h => h) (Or.inl ⟨by rfl, ?_⟩) ?_ ?_
      rotate_left
      ·intro w'
       go_simp
       with_reducible rfl
      rotate_left
      ·simp only [Act.put, List.setIfInBounds_toArray, List.set_cons_zero, List.set_cons_succ, i64_w, i32_w]
       rfl
      refine done_ (by kernel_rfl) ?_
      go_wp2_with fail
      go_roundw
      case rel => exact ⟨m + 1, (by first | rfl | (congr 1; omega)), (by have := HLT.out; omega), HC2, ⟨⟨d + 1, rfl⟩⟩⟩
      case measure => have := HLT.out; simp [intOf]; omega
   ·have b2 : decide ((m : Int) + 1 < (n : Int)) = false := decide_eq_false (by omega)
    have HC2 := Aside0.mk (show compF xs = xs from by
     rw [HC.out, List.drop_eq_nil_of_le (by have := HN.out; omega), List.take_of_length_le (by have := HN.out; omega)]
     simp [tailC])
    clear hlt
    go_wp2_with fail
    go_ret
    exact ⟨_, rfl, by rw [HC2.out]; exact Kd.R_drewN HR.out d, pw_below_drewN (Below.refl _ _) d⟩
def allF (xss : List (List S29)) : List S29 := compF (sortF xss.flatten)
set_option maxHeartbeats 4000000 in
set_option maxRecDepth 100000 in
theorem all_c (k : Nat) (A : Option Addr) (c : Nat) (xss : List (List S29)) (fl ss cs : List S29) (b : Bool) (w : World) (hr : Kd.C (Kd.slice 29 k29) w A xss.length xss) (hc : xss.length ≤ c) (hx : xss.length ≤ 1000) (hfl : xss.flatten = fl) (hss : sortF fl = ss) (hcs : compF ss = cs) (hl : fl.length ≤ 1000) (hsl : ss.length ≤ 1000) (hM : edit_May.f k cs 9223372036854775807 = some b) :
  Calls Try.prog 15 #[.slice A xss.length c] w fun e w' => ∃ v, e = .returned (.tuple #[v, .bool b]) ∧ Kd.R k29 29 w' w.heap.size (fun _ => True) v (if b = true then cs else []) ∧ Below w.heap.size w w' := by
 have HR := Aside0.mk hr
 have HC := Aside0.mk hc
 have HM := Aside0.mk hM
 have HFL := Aside0.mk hfl
 have HSS := Aside0.mk hss
 have HCS := Aside0.mk hcs
 have HX := Aside0.mk hx
 have HL := Aside0.mk hl
 have HSL := Aside0.mk hsl
 clear hr hc hM hfl hss hcs hx hl hsl
 go_enter Try.func15, Try.ntmps15
 go_wp2_with fail
 refine (concat_c A c xss _ HR.out HC.out HX.out (by rw [HFL.out]; have := HL.out; omega)).mono ?_
 rintro e w1 ⟨v1, rfl, ho, hb⟩
 rw [HFL.out] at ho
 obtain ⟨A1, c1, rfl⟩ := Kd.R_slice ho
 have HO1 := Aside0.mk ho
 have HB1 := Aside0.mk hb
 clear ho hb
 go_wp2_with fail
 refine (sort_c A1 c1 fl _ (Kd.R_reads' HO1.out).2.2 (Kd.R_reads' HO1.out).2.1 HL.out).mono ?_
 rintro e w2 ⟨v2, rfl, ho, hb⟩
 rw [HSS.out] at ho
 obtain ⟨A2, c2, rfl⟩ := Kd.R_slice ho
 have HO2 := Aside0.mk (Kd.R_lower ho HB1.out.size)
 have HB2 := Aside0.mk (below_step HB1.out hb)
 clear ho hb
 go_wp2_with fail
 refine (compact_c w.heap.size (fun _ => True) A2 c2 ss _ HO2.out HB2.out.size (by have := HSL.out; omega)).mono ?_
 rintro e w3 ⟨v3, rfl, ho, hb⟩
 rw [HCS.out] at ho
 have HO3 := Aside0.mk ho
 obtain ⟨A3, c3, rfl⟩ := Kd.R_slice HO3.out
 have HB3 := Aside0.mk (HB2.out.trans hb)
 clear ho hb
 go_wp2_with fail
 refine (edit_May.calls k A3 c3 cs 9223372036854775807 b _ (Kd.R_reads' HO3.out).2.2 (Kd.R_reads' HO3.out).2.1 HM.out).mono ?_
 rintro e w4 ⟨rfl, hb⟩
 have HO4 := Aside0.mk (Kd.R_below HO3.out hb)
 have HB4 := Aside0.mk (below_step HB3.out hb)
 clear hb
 cases b
 ·go_wp2_with fail
  go_ret2
  exact ⟨_, rfl, Kd.R_nil _ _ _ _ _, HB4.out⟩
 ·go_wp2_with fail
  go_ret2
  exact ⟨_, rfl, HO4.out, HB4.out⟩
/-! ### the heap's steps put the same edits in other places -/
theorem rd_get {xs : List S29} {i : Int} (h0 : 0 ≤ i) (h : i < xs.length) : rd_T29 xs i = xs[i.toNat]'(by omega) := by
 unfold rd_T29
 rw [List.getD_eq_getElem?_getD, List.getElem?_eq_getElem (by omega), Option.getD_some]
theorem swapE_perm {xs : List S29} {i j : Int} (hi : 0 ≤ i) (hil : i < xs.length) (hj : 0 ≤ j) (hjl : j < xs.length) : (swapE xs i j).Perm xs := by
 unfold swapE
 rw [rd_get hi hil, rd_get hj hjl]
 exact List.set_set_perm (by omega) (by omega)
theorem upF_perm (d : Nat) : ∀ (xs : List S29) (j : Int), 0 ≤ j → j < xs.length → (upF d xs j).Perm xs := by
 induction d with
 | zero => intro xs j _ _; exact List.Perm.refl _
 | succ d ih =>
  intro xs j h0 hl
  obtain ⟨q1, q2, _, _⟩ := tdiv2 h0
  simp only [upF]
  split
  ·exact List.Perm.refl _
  ·split
   ·exact (ih _ _ q1 (by rw [swapE_len]; omega)).trans (swapE_perm q1 (by omega) h0 hl)
   ·exact List.Perm.refl _
theorem pushF_perm (xs : List S29) (x : S29) : (pushF xs x).Perm (xs ++ [x]) := upF_perm _ _ _ (by omega) (by simp; omega)
theorem fill_perm (l : List S29) : ∀ q : List S29, (l.foldl pushF q).Perm (q ++ l) := by
 induction l with
 | nil => intro q; simp
 | cons x l ih =>
  intro q
  rw [List.foldl_cons]
  refine (ih _).trans ?_
  refine ((pushF_perm q x).append_right l).trans ?_
  rw [List.append_assoc]
  exact List.Perm.refl _
theorem fillF_perm (l : List S29) : (fillF l).Perm l := (fill_perm l []).trans (by simp)
theorem downF_perm (d : Nat) : ∀ (xs : List S29) (m i : Int), 0 ≤ i → i < xs.length → m ≤ xs.length → (downF d xs m i).Perm xs := by
 induction d with
 | zero => intro xs m i _ _ _; exact List.Perm.refl _
 | succ d ih =>
  intro xs m i h0 hl hm
  simp only [downF]
  split
  ·exact List.Perm.refl _
  ·rename_i hn
   have hc : 0 ≤ childE xs m i ∧ childE xs m i < xs.length := by
    unfold childE
    split
    ·rename_i h; exact ⟨by omega, by have := h.1; omega⟩
    ·omega
   split
   ·exact (ih _ _ _ hc.1 (by rw [swapE_len]; exact hc.2) (by rw [swapE_len]; exact hm)).trans (swapE_perm h0 hl hc.1 hc.2)
   ·exact List.Perm.refl _
theorem popZ_perm {xs : List S29} (h : 0 < xs.length) : (popZ xs).Perm xs := by
 unfold popZ
 exact (downF_perm _ _ _ _ (by omega) (by rw [swapE_len]; omega) (by rw [swapE_len]; omega)).trans (swapE_perm (by omega) (by omega) (by omega) (by omega))
theorem drainF_perm (d : Nat) : ∀ xs : List S29, xs.length = d → (drainF d xs).Perm xs := by
 induction d with
 | zero =>
  intro xs h
  rw [List.length_eq_zero_iff.1 h]
  exact List.Perm.refl _
 | succ d ih =>
  intro xs h
  have hp : 0 < xs.length := by omega
  simp only [drainF]
  rw [if_neg (by intro e; rw [e] at hp; simp at hp)]
  have hs := popZ_split hp
  have hl : (popZ xs).dropLast.length = d := by rw [List.length_dropLast, popZ_len]; omega
  refine ((ih _ hl).cons _).trans ?_
  refine List.Perm.trans ?_ (popZ_perm hp)
  conv => rhs; rw [hs]
  exact (List.perm_append_comm (l₁ := [_])).trans (List.Perm.refl _)
/-- Sort puts the same edits in another order. -/
theorem sortF_perm (xs : List S29) : (sortF xs).Perm xs := by
 unfold sortF
 exact (drainF_perm _ _ (by rw [(fillF_perm xs).length_eq])).trans (fillF_perm xs)
/-! ### the order of edits is a total one -/
theorem bl_trans : ∀ (x y z : List UInt8), Op.bytesLess x y = true → Op.bytesLess y z = true → Op.bytesLess x z = true := by
 intro x
 induction x with
 | nil => intro y z h1 h2; cases y <;> cases z <;> simp_all [Op.bytesLess]
 | cons a x ih =>
  intro y z h1 h2
  cases y with
  | nil => simp [Op.bytesLess] at h1
  | cons b y =>
   cases z with
   | nil => simp [Op.bytesLess] at h2
   | cons c z =>
    simp only [Op.bytesLess, Bool.or_eq_true, Bool.and_eq_true, decide_eq_true_eq, beq_iff_eq] at h1 h2 ⊢
    rcases h1 with h1 | ⟨rfl, h1⟩
    ·rcases h2 with h2 | ⟨rfl, h2⟩
     ·exact .inl (UInt8.lt_trans h1 h2)
     ·exact .inl h1
    ·rcases h2 with h2 | ⟨rfl, h2⟩
     ·exact .inl h2
     ·exact .inr ⟨rfl, ih y z h1 h2⟩
theorem bl_irr : ∀ x : List UInt8, Op.bytesLess x x = false := by
 intro x
 induction x with
 | nil => rfl
 | cons a x ih => simp [Op.bytesLess, ih]
theorem bl_tri : ∀ (x y : List UInt8), Op.bytesLess x y = false → Op.bytesLess y x = false → x = y := by
 intro x
 induction x with
 | nil => intro y h1 h2; cases y with | nil => rfl | cons b y => simp [Op.bytesLess] at h1
 | cons a x ih =>
  intro y h1 h2
  cases y with
  | nil => simp [Op.bytesLess] at h2
  | cons b y =>
   simp only [Op.bytesLess, Bool.or_eq_false_iff, decide_eq_false_iff_not, UInt8.not_lt] at h1 h2
   obtain rfl : a = b := UInt8.le_antisymm h2.1 h1.1
   simp only [BEq.rfl, Bool.true_and] at h1 h2
   rw [ih y h1.2 h2.2]
theorem ltE_iff (a b : S29) : ltE a b = true ↔ a.f0 < b.f0 ∨ (a.f0 = b.f0 ∧ (a.f1 < b.f1 ∨ (a.f1 = b.f1 ∧ Op.bytesLess a.f2.toList b.f2.toList = true))) := by
 unfold ltE ordE
 rw [decide_eq_true_eq]
 simp only [orI]
 have hi : ∀ x y : Int, (x < y ∧ cmpI x y = -1) ∨ (x = y ∧ cmpI x y = 0) ∨ (y < x ∧ cmpI x y = 1) := by
  intro x y
  unfold cmpI
  split
  ·exact .inl ⟨‹_›, rfl⟩
  ·split
   ·exact .inr (.inr ⟨‹_›, rfl⟩)
   ·exact .inr (.inl ⟨by omega, rfl⟩)
 rcases hi a.f0 b.f0 with ⟨h, e⟩ | ⟨h, e⟩ | ⟨h, e⟩ <;> rw [e]
 ·simp [h]
 ·rcases hi a.f1 b.f1 with ⟨h2, e2⟩ | ⟨h2, e2⟩ | ⟨h2, e2⟩ <;> rw [e2]
  ·simp [h, h2]
  ·unfold cmpS
   by_cases hs : Op.bytesLess a.f2.toList b.f2.toList = true
   ·simp [h, h2, hs]
   ·by_cases hs2 : Op.bytesLess b.f2.toList a.f2.toList = true <;> simp [h, h2, hs, hs2]
  ·simp [h]; omega
 ·simp; omega
theorem ltE_trans {a b c : S29} (h1 : ltE a b = true) (h2 : ltE b c = true) : ltE a c = true := by
 rw [ltE_iff] at h1 h2 ⊢
 rcases h1 with h1 | ⟨h1, h1' | ⟨h1', h1''⟩⟩ <;> rcases h2 with h2 | ⟨h2, h2' | ⟨h2', h2''⟩⟩
 all_goals first
  | (exact .inl (by omega))
  | (exact .inr ⟨by omega, .inl (by omega)⟩)
  | (exact .inr ⟨by omega, .inr ⟨by omega, bl_trans _ _ _ h1'' h2''⟩⟩)
theorem ltE_irr (a : S29) : ltE a a = false := by
 rw [← Bool.not_eq_true, ltE_iff]
 simp [bl_irr]
theorem ltE_tri {a b : S29} (h1 : ltE a b = false) (h2 : ltE b a = false) : a = b := by
 rw [← Bool.not_eq_true, ltE_iff] at h1 h2
 have e0 : a.f0 = b.f0 := by
  by_cases h : a.f0 < b.f0
  ·exact absurd (.inl h) h1
  ·by_cases h' : b.f0 < a.f0
   ·exact absurd (.inl h') h2
   ·omega
 have e1 : a.f1 = b.f1 := by
  by_cases h : a.f1 < b.f1
  ·exact absurd (.inr ⟨e0, .inl h⟩) h1
  ·by_cases h' : b.f1 < a.f1
   ·exact absurd (.inr ⟨e0.symm, .inl h'⟩) h2
   ·omega
 have e2 : a.f2 = b.f2 := by
  refine bytes_of_list (bl_tri _ _ ?_ ?_)
  ·rw [← Bool.not_eq_true]; exact fun h => h1 (.inr ⟨e0, .inr ⟨e1, h⟩⟩)
  ·rw [← Bool.not_eq_true]; exact fun h => h2 (.inr ⟨e0.symm, .inr ⟨e1.symm, h⟩⟩)
 cases a; cases b
 simp only at e0 e1 e2
 rw [e0, e1, e2]
def leE (a b : S29) : Prop := ltE b a = false
theorem leE_refl (a : S29) : leE a a := ltE_irr a
theorem leE_of_lt {a b : S29} (h : ltE a b = true) : leE a b := by
 unfold leE
 cases h2 : ltE b a with
 | false => rfl
 | true => have := ltE_trans h h2; rw [ltE_irr] at this; cases this
theorem leE_trans {a b c : S29} (h1 : leE a b) (h2 : leE b c) : leE a c := by
 unfold leE at h1 h2 ⊢
 cases h : ltE c a with
 | false => rfl
 | true =>
  cases hab : ltE a b with
  | false => rw [ltE_tri hab h1] at h; rw [h] at h2; cases h2
  | true => have := ltE_trans h hab; rw [this] at h2; cases h2
theorem leE_anti {a b : S29} (h1 : leE a b) (h2 : leE b a) : a = b := ltE_tri h2 h1
/-! ### the heap's order -/
def gE (xs : List S29) (i : Nat) : S29 := xs.getD i z29
theorem gE_rd (xs : List S29) (i : Nat) : rd_T29 xs (i : Int) = gE xs i := by unfold rd_T29 gE; rw [Int.toNat_natCast]
theorem gE_get {xs : List S29} {i : Nat} (h : i < xs.length) : gE xs i = xs[i] := by
 unfold gE
 rw [List.getD_eq_getElem?_getD, List.getElem?_eq_getElem h, Option.getD_some]
theorem gE_swap {xs : List S29} {i j : Nat} (hi : i < xs.length) (hj : j < xs.length) (k : Nat) : gE (swapE xs i j) k = if k = j then gE xs i else if k = i then gE xs j else gE xs k := by
 unfold swapE
 rw [gE_rd, gE_rd, Int.toNat_natCast, Int.toNat_natCast]
 unfold gE
 rw [List.getD_eq_getElem?_getD, List.getElem?_set]
 by_cases h1 : j = k
 ·subst h1
  rw [if_pos rfl, if_pos rfl, List.length_set, if_pos hj, Option.getD_some]
 ·rw [if_neg h1, if_neg (fun e => h1 e.symm), List.getElem?_set]
  by_cases h2 : i = k
  ·subst h2
   rw [if_pos rfl, if_pos rfl, if_pos hi, Option.getD_some]
  ·rw [if_neg h2, if_neg (fun e => h2 e.symm), List.getD_eq_getElem?_getD]
def HP (xs : List S29) (m : Nat) : Prop := ∀ k, 0 < k → k < m → leE (gE xs ((k - 1) / 2)) (gE xs k)
theorem tdivN {j : Nat} (h : 0 < j) : Int.tdiv ((j : Int) - 1) 2 = (((j - 1) / 2 : Nat) : Int) := by
 rw [Int.tdiv_eq_ediv_of_nonneg (by omega)]; omega
theorem up_heap (d : Nat) : ∀ (xs : List S29) (j : Nat), j < d → j < xs.length →
  (∀ k, 0 < k → k < xs.length → k ≠ j → leE (gE xs ((k - 1) / 2)) (gE xs k)) →
  (∀ k, 0 < k → k < xs.length → 0 < j → (k - 1) / 2 = j → leE (gE xs ((j - 1) / 2)) (gE xs k)) →
  HP (upF d xs j) xs.length := by
 induction d with
 | zero => intro xs j h; omega
 | succ d ih =>
  intro xs j hd hj h1 h2
  by_cases h0 : j = 0
  ·subst h0
   simp only [upF]
   by_cases hz : Int.tdiv (((0 : Nat) : Int) - 1) 2 = ((0 : Nat) : Int)
   ·rw [if_pos hz]
    intro k hk hkl
    exact h1 k hk hkl (by omega)
   ·exact absurd (by decide) hz
  ·have hp : (j - 1) / 2 < j := by omega
   obtain ⟨p, hpe⟩ : ∃ p, (j - 1) / 2 = p := ⟨_, rfl⟩
   simp only [upF]
   rw [tdivN (by omega), hpe, if_neg (by omega), gE_rd, gE_rd]
   rw [hpe] at hp h2
   split
   ·rename_i hlt
    have hs := fun k => gE_swap (xs := xs) (i := p) (j := j) (by omega) hj k
    have hle := leE_of_lt hlt
    have := ih (swapE xs p j) p (by omega) (by rw [swapE_len]; omega)
     (by
      intro k hk hkl hkp
      rw [swapE_len] at hkl
      rw [hs, hs]
      by_cases hkj : k = j
      ·subst hkj
       rw [hpe, if_neg (by omega), if_pos rfl, if_pos rfl]
       exact hle
      ·rw [if_neg hkj, if_neg hkp]
       by_cases hpar : (k - 1) / 2 = j
       ·rw [if_pos hpar]
        exact h2 k hk hkl (by omega) hpar
       ·rw [if_neg hpar]
        by_cases hpp : (k - 1) / 2 = p
        ·rw [if_pos hpp]
         have := h1 k hk hkl hkj
         rw [hpp] at this
         exact leE_trans hle this
        ·rw [if_neg hpp]
         exact h1 k hk hkl hkj)
     (by
      intro k hk hkl hp0 hkp
      rw [swapE_len] at hkl
      rw [hs, hs, if_neg (by omega), if_neg (by omega)]
      have hgp := h1 p hp0 (by omega) (by omega)
      by_cases hkj : k = j
      ·rw [if_pos hkj]; exact hgp
      ·rw [if_neg hkj, if_neg (by omega)]
       have := h1 k hk hkl hkj
       rw [hkp] at this
       exact leE_trans hgp this)
    rw [swapE_len] at this
    exact this
   ·rename_i hlt
    intro k hk hkl
    by_cases hkj : k = j
    ·subst hkj
     rw [hpe]
     unfold leE
     simpa using hlt
    ·exact h1 k hk hkl hkj
theorem push_heap {xs : List S29} (h : HP xs xs.length) (x : S29) : HP (pushF xs x) (pushF xs x).length := by
 have hl : (xs ++ [x]).length = xs.length + 1 := by simp
 have := up_heap (xs.length + 1) (xs ++ [x]) xs.length (by omega) (by omega)
  (by
   intro k hk hkl hne
   have hk2 : k < xs.length := by omega
   have := h k hk hk2
   rw [gE_get (by omega), gE_get (by omega)] at this ⊢
   rw [List.getElem_append_left (by omega), List.getElem_append_left (by omega)]
   exact this)
  (by intro k hk hkl h0 hp; omega)
 rw [pushF_len, ← hl]
 exact this
theorem fill_heap (l : List S29) : ∀ q : List S29, HP q q.length → HP (l.foldl pushF q) (l.foldl pushF q).length := by
 induction l with
 | nil => intro q h; exact h
 | cons x l ih => intro q h; rw [List.foldl_cons]; exact ih _ (push_heap h x)
theorem down_far (d : Nat) : ∀ (xs : List S29) (m i k : Nat), m ≤ xs.length → i < m → m ≤ k → gE (downF d xs m i) k = gE xs k := by
 induction d with
 | zero => intro xs m i k _ _ _; rfl
 | succ d ih =>
  intro xs m i k hm hi hk
  simp only [downF]
  split
  ·rfl
  ·rename_i hn
   split
   ·obtain ⟨j, hj, hjm⟩ : ∃ j : Nat, childE xs m i = (j : Int) ∧ j < m := by
     unfold childE
     split
     ·rename_i h; exact ⟨2 * i + 2, by omega, by omega⟩
     ·exact ⟨2 * i + 1, by omega, by omega⟩
    rw [hj, ih _ m j k (by rw [swapE_len]; exact hm) hjm hk, gE_swap (by omega) (by omega), if_neg (by omega), if_neg (by omega)]
   ·rfl
theorem down_heap (d : Nat) : ∀ (xs : List S29) (m i : Nat), m ≤ i + d → m ≤ xs.length → i < m →
  (∀ k, 0 < k → k < m → (k - 1) / 2 ≠ i → leE (gE xs ((k - 1) / 2)) (gE xs k)) →
  (∀ k, 0 < k → k < m → 0 < i → (k - 1) / 2 = i → leE (gE xs ((i - 1) / 2)) (gE xs k)) →
  HP (downF d xs m i) m := by
 induction d with
 | zero => intro xs m i h _ hi; omega
 | succ d ih =>
  intro xs m i hd hm hi h1 h2
  simp only [downF]
  split
  ·intro k hk hkm
   exact h1 k hk hkm (by omega)
  ·rename_i hn
   obtain ⟨j, hj, hji, hj0, hjm, hjle⟩ : ∃ j : Nat, childE xs m i = (j : Int) ∧ (j - 1) / 2 = i ∧ 0 < j ∧ j < m ∧ ∀ k, 0 < k → k < m → (k - 1) / 2 = i → leE (gE xs j) (gE xs k) := by
    have e1 : 2 * (i : Int) + 1 = ((2 * i + 1 : Nat) : Int) := by omega
    have e2 : 2 * (i : Int) + 2 = ((2 * i + 2 : Nat) : Int) := by omega
    unfold childE
    rw [e1, e2, gE_rd, gE_rd]
    split
    ·rename_i h
     refine ⟨2 * i + 2, rfl, by omega, by omega, by omega, fun k hk hkm hp => ?_⟩
     rcases (by omega : k = 2 * i + 1 ∨ k = 2 * i + 2) with rfl | rfl
     ·exact leE_of_lt h.2
     ·exact leE_refl _
    ·rename_i h
     refine ⟨2 * i + 1, rfl, by omega, by omega, by omega, fun k hk hkm hp => ?_⟩
     rcases (by omega : k = 2 * i + 1 ∨ k = 2 * i + 2) with rfl | rfl
     ·exact leE_refl _
     ·unfold leE
      cases hc : ltE (gE xs (2 * i + 2)) (gE xs (2 * i + 1)) with
      | false => rfl
      | true => exact absurd ⟨by omega, hc⟩ h
   rw [hj, gE_rd, gE_rd]
   split
   ·rename_i hlt
    have hle := leE_of_lt hlt
    have hs := fun k => gE_swap (xs := xs) (i := i) (j := j) (by omega) (by omega) k
    refine ih (swapE xs i j) m j (by omega) (by rw [swapE_len]; exact hm) hjm ?_ ?_
    ·intro k hk hkm hne
     rw [hs, hs, if_neg hne]
     by_cases hpi : (k - 1) / 2 = i
     ·rw [if_pos hpi]
      by_cases hkj : k = j
      ·rw [if_pos hkj]; exact hle
      ·rw [if_neg hkj, if_neg (by omega)]
       exact hjle k hk hkm hpi
     ·rw [if_neg hpi]
      have hkj : k ≠ j := by intro e; rw [e] at hpi; exact hpi hji
      rw [if_neg hkj]
      by_cases hki : k = i
      ·rw [if_pos hki, hki]
       exact h2 j hj0 hjm (by omega) hji
      ·rw [if_neg hki]
       exact h1 k hk hkm hpi
    ·intro k hk hkm _ hkp
     rw [hs, hs, hji, if_neg (by omega), if_pos rfl, if_neg (by omega), if_neg (by omega)]
     have := h1 k hk hkm (by omega)
     rw [hkp] at this
     exact this
   ·rename_i hlt
    intro k hk hkm
    by_cases hp : (k - 1) / 2 = i
    ·have h3 : leE (gE xs i) (gE xs j) := by unfold leE; simpa using hlt
     rw [hp]
     exact leE_trans h3 (hjle k hk hkm hp)
    ·exact h1 k hk hkm hp
theorem heap_least {xs : List S29} {m : Nat} (h : HP xs m) : ∀ k, k < m → leE (gE xs 0) (gE xs k) := by
 intro k
 induction k using Nat.strongRecOn with
 | _ k ih =>
  intro hk
  by_cases h0 : k = 0
  ·rw [h0]; exact leE_refl _
  ·exact leE_trans (ih ((k - 1) / 2) (by omega) (by omega)) (h k (by omega) hk)
/-- What heap.Pop gives is the least one, and what stays is a heap. -/
theorem pop_heap {xs : List S29} (h : HP xs xs.length) (h0 : 0 < xs.length) : HP (popZ xs).dropLast (popZ xs).dropLast.length ∧ ∀ y ∈ (popZ xs).dropLast, leE (rd_T29 (popZ xs) ((xs.length : Int) - 1)) y := by
 obtain ⟨m, hm⟩ : ∃ m, xs.length = m + 1 := ⟨xs.length - 1, by omega⟩
 have e1 : ((xs.length : Int) - 1) = (m : Int) := by omega
 have hl := popZ_len xs
 have hs := fun k => gE_swap (xs := xs) (i := 0) (j := m) (by omega) (by omega) k
 have hz : popZ xs = downF (m + 1) (swapE xs ((0 : Nat) : Int) (m : Int)) (m : Int) ((0 : Nat) : Int) := by unfold popZ; rw [e1, hm]; rfl
 have hdl : (popZ xs).dropLast.length = m := by rw [List.length_dropLast, hl]; omega
 have hlast : rd_T29 (popZ xs) (m : Int) = gE xs 0 := by
  rw [gE_rd, hz]
  by_cases hm0 : m = 0
  ·subst hm0
   rw [show downF 1 (swapE xs ((0 : Nat) : Int) ((0 : Nat) : Int)) ((0 : Nat) : Int) ((0 : Nat) : Int) = swapE xs ((0 : Nat) : Int) ((0 : Nat) : Int) from by simp [downF], hs, if_pos rfl]
  ·rw [down_far _ _ m 0 m (by rw [swapE_len]; omega) (by omega) (Nat.le_refl _), hs, if_pos rfl]
 have hget : ∀ k, k < m → gE (popZ xs).dropLast k = gE (popZ xs) k := by
  intro k hk
  rw [gE_get (by omega), gE_get (by omega), List.getElem_dropLast]
 have hheap : HP (popZ xs).dropLast (popZ xs).dropLast.length := by
  rw [hdl]
  intro k hk hkm
  rw [hget _ (by omega), hget _ hkm, hz]
  refine down_heap (m + 1) (swapE xs ((0 : Nat) : Int) (m : Int)) m 0 (by omega) (by rw [swapE_len]; omega) (by omega) ?_ ?_ k hk hkm
  ·intro k hk hkm hp
   rw [hs, hs, if_neg (by omega), if_neg (by omega), if_neg (by omega), if_neg (by omega)]
   exact h k hk (by omega)
  ·intro k _ _ h; omega
 refine ⟨hheap, fun y hy => ?_⟩
 rw [e1, hlast]
 have hy2 : y ∈ xs := by
  refine (popZ_perm h0).subset ?_
  rw [popZ_split h0]
  exact List.mem_append_left _ hy
 obtain ⟨k, hk, rfl⟩ := List.getElem_of_mem hy2
 have := heap_least h k hk
 rw [gE_get hk] at this
 exact this
theorem drain_sorted (d : Nat) : ∀ xs : List S29, xs.length = d → HP xs xs.length → (drainF d xs).Pairwise leE := by
 induction d with
 | zero => intro xs _ _; exact List.Pairwise.nil
 | succ d ih =>
  intro xs hl h
  have hp : 0 < xs.length := by omega
  have hdl : (popZ xs).dropLast.length = d := by rw [List.length_dropLast, popZ_len]; omega
  obtain ⟨h1, h2⟩ := pop_heap h hp
  simp only [drainF]
  rw [if_neg (by intro e; rw [e] at hp; simp at hp)]
  rw [List.pairwise_cons]
  exact ⟨fun y hy => h2 y ((drainF_perm d _ hdl).subset hy), ih _ hdl h1⟩
theorem sortF_sorted (xs : List S29) : (sortF xs).Pairwise leE := by
 unfold sortF
 rw [← (fillF_perm xs).length_eq]
 exact drain_sorted _ _ rfl (fill_heap xs [] (fun k _ hk => absurd hk (Nat.not_lt_zero _)))
/-- There is one order alone. -/
theorem sort_uniq {xs ys : List S29} (h : ys.Pairwise leE) (hp : ys.Perm xs) : sortF xs = ys :=
 (((sortF_perm xs).trans hp.symm).eq_of_pairwise (fun a b _ _ h1 h2 => leE_anti h1 h2) (sortF_sorted xs) h)
theorem sort_perm {xs ys : List S29} (hp : xs.Perm ys) : sortF xs = sortF ys := sort_uniq (sortF_sorted ys) ((sortF_perm ys).trans hp.symm)
theorem sort_pop {xs : List S29} (h : HP xs xs.length) (h0 : 0 < xs.length) : sortF xs = rd_T29 (popZ xs) ((xs.length : Int) - 1) :: sortF (popZ xs).dropLast := by
 refine sort_uniq ?_ ?_
 ·rw [List.pairwise_cons]
  exact ⟨fun y hy => (pop_heap h h0).2 y ((sortF_perm _).subset hy), sortF_sorted _⟩
 ·refine ((sortF_perm _).cons _).trans (List.Perm.trans ?_ (popZ_perm h0))
  conv => rhs; rw [popZ_split h0]
  exact (List.perm_append_comm (l₁ := [_])).trans (List.Perm.refl _)
theorem sortF_len (xs : List S29) : (sortF xs).length = xs.length := (sortF_perm xs).length_eq
theorem sort_add (xs : List S29) (x : S29) : sortF (sortF xs ++ [x]) = sortF (xs ++ [x]) := sort_perm ((sortF_perm xs).append_right _)
theorem sort_push (qs : List S29) (x : S29) : sortF (pushF qs x) = sortF (sortF qs ++ [x]) := (sort_perm (pushF_perm qs x)).trans (sort_add qs x).symm
/-- An edit put behind those that are no greater, ahead of those that are greater. -/
theorem ins_sorted {os : List S29} {x : S29} {q : Nat} (h : os.Pairwise leE) (hq : q ≤ os.length) (h1 : 0 < q → leE (gE os (q - 1)) x) (h2 : ∀ k, q ≤ k → k < os.length → ltE x (gE os k) = true) : (os.take q ++ x :: os.drop q).Pairwise leE := by
 have hd : ∀ y ∈ os.drop q, leE x y := by
  intro y hy
  obtain ⟨k, hk, rfl⟩ := List.getElem_of_mem hy
  rw [List.length_drop] at hk
  rw [List.getElem_drop, ← gE_get (by omega)]
  exact leE_of_lt (h2 _ (by omega) (by omega))
 have ht : ∀ y ∈ os.take q, leE y x := by
  intro y hy
  obtain ⟨k, hk, rfl⟩ := List.getElem_of_mem hy
  rw [List.length_take] at hk
  rw [List.getElem_take]
  have hx := h1 (by omega)
  rw [gE_get (by omega)] at hx
  rcases (by omega : k = q - 1 ∨ k < q - 1) with rfl | hlt
  ·exact hx
  ·exact leE_trans ((List.pairwise_iff_getElem.1 h) k (q - 1) (by omega) (by omega) hlt) hx
 rw [List.pairwise_append]
 refine ⟨h.sublist (List.take_sublist _ _), ?_, ?_⟩
 ·rw [List.pairwise_cons]
  exact ⟨hd, h.sublist (List.drop_sublist _ _)⟩
 ·intro a ha b hb
  rw [List.mem_cons] at hb
  rcases hb with rfl | hb
  ·exact ht a ha
  ·exact leE_trans (ht a ha) (hd b hb)
theorem ins_perm {os zs : List S29} {x : S29} (q : Nat) (h : os.Perm zs) : (os.take q ++ x :: os.drop q).Perm (zs ++ [x]) := by
 refine List.perm_middle.trans ?_
 rw [List.take_append_drop]
 exact (h.cons x).trans (List.perm_append_comm (l₁ := [x]))
theorem Reps.c1 {α : Type} {R : α → List Value → Prop} {ps : List α} {cs : List Value} {p : α} {va : Value} (hp : R p [va]) (h : Reps R 1 ps cs) : Reps R 1 (p :: ps) (va :: cs) := Reps.front hp rfl h rfl
theorem bg1 : pushF [] (⟨5, 0, ⟨#[]⟩⟩ : S29) = [(⟨5, 0, ⟨#[]⟩⟩ : S29)] := by kernel_rfl
theorem bg2 : pushF [(⟨5, 0, ⟨#[]⟩⟩ : S29)] (⟨2, 0, ⟨#[]⟩⟩ : S29) = [(⟨2, 0, ⟨#[]⟩⟩ : S29), (⟨5, 0, ⟨#[]⟩⟩ : S29)] := by kernel_rfl
theorem bg3 : popZ [(⟨2, 0, ⟨#[]⟩⟩ : S29), (⟨5, 0, ⟨#[]⟩⟩ : S29)] = [(⟨5, 0, ⟨#[]⟩⟩ : S29)] ++ [(⟨2, 0, ⟨#[]⟩⟩ : S29)] := by kernel_rfl
theorem bg4 : sortF [(⟨5, 1, ⟨#[]⟩⟩ : S29), (⟨2, 1, ⟨#[]⟩⟩ : S29), (⟨5, 1, ⟨#[]⟩⟩ : S29)] = [(⟨2, 1, ⟨#[]⟩⟩ : S29), (⟨5, 1, ⟨#[]⟩⟩ : S29), (⟨5, 1, ⟨#[]⟩⟩ : S29)] := by kernel_rfl
theorem bg5 : compF [(⟨2, 1, ⟨#[]⟩⟩ : S29), (⟨5, 1, ⟨#[]⟩⟩ : S29), (⟨5, 1, ⟨#[]⟩⟩ : S29)] = [(⟨2, 1, ⟨#[]⟩⟩ : S29), (⟨5, 1, ⟨#[]⟩⟩ : S29)] := by kernel_rfl
theorem bg6 : edit_May.f 10 [(⟨2, 1, ⟨#[]⟩⟩ : S29), (⟨5, 1, ⟨#[]⟩⟩ : S29)] 9223372036854775807 = some true := by kernel_rfl
theorem bg7 : sortF [(⟨5, 1, ⟨#[]⟩⟩ : S29), (⟨6, 1, ⟨#[]⟩⟩ : S29)] = [(⟨5, 1, ⟨#[]⟩⟩ : S29), (⟨6, 1, ⟨#[]⟩⟩ : S29)] := by kernel_rfl
theorem bg8 : compF [(⟨5, 1, ⟨#[]⟩⟩ : S29), (⟨6, 1, ⟨#[]⟩⟩ : S29)] = [(⟨5, 1, ⟨#[]⟩⟩ : S29), (⟨6, 1, ⟨#[]⟩⟩ : S29)] := by kernel_rfl
theorem bg9 : edit_May.f 10 [(⟨5, 1, ⟨#[]⟩⟩ : S29), (⟨6, 1, ⟨#[]⟩⟩ : S29)] 9223372036854775807 = some false := by kernel_rfl
set_option maxHeartbeats 4000000 in
set_option maxRecDepth 100000 in
theorem begun_c (w : World) :
  Calls Try.prog 7 #[] w fun e w' => e = .returned (.bool true) ∧ Below w.heap.size w w' := by
 have HQ0 := Aside0.mk (show Qu (fun k => k = w.heap.size) w.heap.size (w.alloc (.cells #[.slice none 0 0] 27)) w.heap.size [] from ⟨Nat.le_refl _, rfl, _, heap_alloc_new w _, Kd.R_nil _ _ _ _ _⟩)
 have HB0 := Aside0.mk (below_alloc (Below.refl w.heap.size w) (.cells #[.slice none 0 0] 27))
 go_enter Try.func7, Try.ntmps7
 obtain ⟨x, hx⟩ : ∃ x : S29, x = (⟨2, 0, ⟨#[]⟩⟩ : S29) := ⟨_, rfl⟩
 have HX := Aside0.mk hx
 clear hx
 go_wp2_with fail
 obtain ⟨gq, hgq⟩ : ∃ gq, w.heap.size = gq := ⟨_, rfl⟩
 replace HQ0 := Aside0.mk (show Qu (fun k => k = w.heap.size) w.heap.size (w.alloc (.cells #[.slice none 0 0] 27)) gq [] from by rw [← hgq]; exact HQ0.out)
 rw [hgq]
 clear hgq
 refine (add_c _ w.heap.size gq [] (⟨5, 0, ⟨#[]⟩⟩ : S29) _ HQ0.out HB0.out.size (by simp)).mono ?_
 rintro e w1 ⟨rfl, hq, hb, hk⟩
 rw [bg1] at hq
 have HQ1 := Aside0.mk hq
 have HB1 := Aside0.mk (HB0.out.trans hb)
 clear hq hb hk HQ0 HB0
 go_wp2_with fail
 refine (add_c _ w.heap.size gq [(⟨5, 0, ⟨#[]⟩⟩ : S29)] (⟨2, 0, ⟨#[]⟩⟩ : S29) _ HQ1.out HB1.out.size (by simp)).mono ?_
 rintro e w2 ⟨rfl, hq, hb, hk⟩
 rw [bg2] at hq
 have HQ2 := Aside0.mk hq
 have HB2 := Aside0.mk (HB1.out.trans hb)
 clear hq hb hk HQ1 HB1
 go_wp2_with fail
 refine (next_yes _ w.heap.size gq [(⟨2, 0, ⟨#[]⟩⟩ : S29), (⟨5, 0, ⟨#[]⟩⟩ : S29)] [(⟨5, 0, ⟨#[]⟩⟩ : S29)] x _ HQ2.out HB2.out.size (by simp) (by simp) (by rw [HX.out]; exact bg3)).mono ?_
 rintro e w3 ⟨rfl, hq, hb, hk⟩
 have HQ3 := Aside0.mk hq
 have HB3 := Aside0.mk (HB2.out.trans hb)
 clear hq hb hk HQ2 HB2
 go_wp2_with (first | ((with_reducible refine gate_dst (N := 2) rfl ?_); (try (refine gate_guard (by rfl) ?_; dsimp only)); refine box_event ?hg (N := 2) ?hd (cs := #[.int .i64 0, .int .i64 0, .string ⟨#[]⟩]) (t := 29) ?hr ?_; (case hd => rfl); (case hg => rfl); (case hr => first | (go_simp; done) | (go_simp; rfl)); intro gb hgb w12 hbox hb12; have HBL := Aside0.mk hb12; have BX := Aside0.mk hbox; have GE := Aside0.mk (show w3.heap.size ≤ gb from by rw [hgb]; exact Nat.le_refl _); clear hb12 hbox hgb; have z0 : w12.cell? ⟨gb, 0, none⟩ = some (.int .i64 0) := (blk_cell BX.out 0).trans rfl; have z1 : w12.cell? ⟨gb, 1, none⟩ = some (.int .i64 0) := (blk_cell BX.out 1).trans rfl; have z2 : w12.cell? ⟨gb, 2, none⟩ = some (.string ⟨#[]⟩) := (blk_cell BX.out 2).trans rfl; have f0 := blk_frozen BX.out 0; have f1 := blk_frozen BX.out 1; have f2 := blk_frozen BX.out 2) | ((with_reducible refine gate_store (t := 29) (p := 2) rfl ?_); refine store_event (t := 29) (p := 2) (v := ?vo_w14_2) (w1 := (((w12.setCell ⟨gb, 0, none⟩ (.int .i64 x.f0)).setCell ⟨gb, 1, none⟩ (.int .i64 x.f1)).setCell ⟨gb, 2, none⟩ (.string x.f2))) ?hg ?ho ?hn ?hr ?_; (case ho => rfl); (case hg => rfl); (case hn => rfl); (case hr => first | (go_simp; done) | (go_simp; rfl)); intro w14 hw; have BX2 := Aside0.mk (show w14.heap[gb]? = some (.cells #[.int .i64 x.f0, .int .i64 x.f1, .string x.f2] 29 (0, 0)) from by rw [hw]; exact blk_put (cs := #[.int .i64 x.f0, .int .i64 x.f1, .string ⟨#[]⟩]) (blk_put (cs := #[.int .i64 x.f0, .int .i64 0, .string ⟨#[]⟩]) (blk_put BX.out 0 (.int .i64 x.f0) rfl) 1 (.int .i64 x.f1) rfl) 2 (.string x.f2) rfl); have HBL2 := Aside0.mk (show Below w3.heap.size w3 w14 from by rw [hw]; exact below_set3 HBL.out GE.out 0 1 2 _ _ _); clear hw z0 z1 z2 f0 f1 f2 BX HBL; have HB4 := Aside0.mk (HB3.out.trans (HBL2.out.mono HB3.out.size)); have HQ4 := Aside0.mk (HQ3.out.below HBL2.out)) | ((with_reducible refine gate_dst (N := 18) rfl ?_); (try (refine gate_guard (by rfl) ?_; dsimp only)); refine Kd.R_lit (k29) w.heap.size 29 ?hg (N := 18) ?hd (xs := [(⟨5, 1, ⟨#[]⟩⟩ : S29)]) (inner := [.int .i64 5, .int .i64 1, .string ⟨#[]⟩]) (ok := fun _ => True) (okp := fun _ => True) ?hr ?hp (fun _ hk => hk) trivial HB4.out HB4.out.size (by simp) ?_; (case hd => rfl); (case hg => rfl); (case hr => first | (go_simp; done) | (go_simp; rfl)); (case hp => exact (Reps.c3 (k29_mkM _ _ _ (⟨5, 1, ⟨#[]⟩⟩ : S29)) (Reps.none _ _))); intro vla wla ho hb hg hnew; obtain ⟨Ala, cla, rfl⟩ := Kd.R_slice ho; have HOa := Aside0.mk ho; have HBa := Aside0.mk hb; have HGa := Aside0.mk (Below.grown (Below.refl _ _) hg (Nat.le_refl _) (fun _ hk => nomatch hk)); clear ho hb hg hnew) | ((with_reducible refine gate_dst (N := 21) rfl ?_); (try (refine gate_guard (by rfl) ?_; dsimp only)); refine Kd.R_lit (k29) w.heap.size 29 ?hg (N := 21) ?hd (xs := [(⟨2, 1, ⟨#[]⟩⟩ : S29), (⟨5, 1, ⟨#[]⟩⟩ : S29)]) (inner := [.int .i64 2, .int .i64 1, .string ⟨#[]⟩, .int .i64 5, .int .i64 1, .string ⟨#[]⟩]) (ok := fun _ => True) (okp := fun _ => True) ?hr ?hp (fun _ hk => hk) trivial HBa.out HBa.out.size (by simp) ?_; (case hd => rfl); (case hg => rfl); (case hr => first | (go_simp; done) | (go_simp; rfl)); (case hp => exact (Reps.c3 (k29_mkM _ _ _ (⟨2, 1, ⟨#[]⟩⟩ : S29)) (Reps.c3 (k29_mkM _ _ _ (⟨5, 1, ⟨#[]⟩⟩ : S29)) (Reps.none _ _)))); intro vlb wlb ho hb hg hnew; obtain ⟨Alb, clb, rfl⟩ := Kd.R_slice ho; have HOb := Aside0.mk ho; have HBb := Aside0.mk hb; have HGb := Aside0.mk (Below.grown (Below.refl _ _) hg (Nat.le_refl _) (fun _ hk => nomatch hk)); clear ho hb hg hnew) | ((with_reducible refine gate_dst (N := 22) rfl ?_); (try (refine gate_guard (by rfl) ?_; dsimp only)); refine Kd.R_lit (Kd.slice 29 k29) w.heap.size 22 ?hg (N := 22) ?hd (xs := [[(⟨5, 1, ⟨#[]⟩⟩ : S29)], [(⟨2, 1, ⟨#[]⟩⟩ : S29), (⟨5, 1, ⟨#[]⟩⟩ : S29)]]) (inner := [.slice Ala 1 cla, .slice Alb 2 clb]) (ok := fun _ => True) (okp := fun _ => True) ?hr ?hp (fun _ hk => hk) trivial HBb.out HBb.out.size (by simp) ?_; (case hd => rfl); (case hg => rfl); (case hr => first | (go_simp; done) | (go_simp; rfl)); (case hp => exact (Reps.c1 (show Kd.M (Kd.slice 29 k29) _ _ _ [(⟨5, 1, ⟨#[]⟩⟩ : S29)] [.slice Ala [(⟨5, 1, ⟨#[]⟩⟩ : S29)].length cla] from ⟨_, rfl, Kd.R_below HOa.out HGb.out⟩) (Reps.c1 (show Kd.M (Kd.slice 29 k29) _ _ _ [(⟨2, 1, ⟨#[]⟩⟩ : S29), (⟨5, 1, ⟨#[]⟩⟩ : S29)] [.slice Alb [(⟨2, 1, ⟨#[]⟩⟩ : S29), (⟨5, 1, ⟨#[]⟩⟩ : S29)].length clb] from ⟨_, rfl, HOb.out⟩) (Reps.none _ _)))); intro vlc wlc ho hb hg hnew; obtain ⟨Alc, clc, rfl⟩ := Kd.R_slice ho; have HOc := Aside0.mk ho; have HBc := Aside0.mk hb; have HGc := Aside0.mk (Below.grown (Below.refl _ _) hg (Nat.le_refl _) (fun _ hk => nomatch hk)); clear ho hb hg hnew))
 refine (all_c 10 _ _ [[(⟨5, 1, ⟨#[]⟩⟩ : S29)], [(⟨2, 1, ⟨#[]⟩⟩ : S29), (⟨5, 1, ⟨#[]⟩⟩ : S29)]] [(⟨5, 1, ⟨#[]⟩⟩ : S29), (⟨2, 1, ⟨#[]⟩⟩ : S29), (⟨5, 1, ⟨#[]⟩⟩ : S29)] [(⟨2, 1, ⟨#[]⟩⟩ : S29), (⟨5, 1, ⟨#[]⟩⟩ : S29), (⟨5, 1, ⟨#[]⟩⟩ : S29)] [(⟨2, 1, ⟨#[]⟩⟩ : S29), (⟨5, 1, ⟨#[]⟩⟩ : S29)] true _ (Kd.R_reads' HOc.out).2.2 (Kd.R_reads' HOc.out).2.1 (by simp) rfl bg4 bg5 (by simp) (by simp) bg6).mono ?_
 rintro e w5 ⟨v5, rfl, ho, hb⟩
 have HO5 := Aside0.mk (Kd.R_lower ho HBc.out.size)
 have HB5 := Aside0.mk (below_step HBc.out hb)
 have HQ5 := Aside0.mk (((((HQ4.out.below HGa.out).below HGb.out).below HGc.out).below hb))
 have BX5 := Aside0.mk (blk_below (blk_below (blk_below (blk_below BX2.out HGa.out) HGb.out) HGc.out) hb)
 clear ho hb HOa HOb HOc HBa HBb HBc HGa HGb HGc HQ4 HBL2 BX2 HQ3 HB3
 go_wp2_with (first | ((with_reducible refine gate_dst (N := 28) rfl ?_); (try (refine gate_guard (by rfl) ?_; dsimp only)); refine Kd.R_lit (k29) w.heap.size 29 ?hg (N := 28) ?hd (xs := [(⟨5, 1, ⟨#[]⟩⟩ : S29)]) (inner := [.int .i64 5, .int .i64 1, .string ⟨#[]⟩]) (ok := fun _ => True) (okp := fun _ => True) ?hr ?hp (fun _ hk => hk) trivial HB5.out HB5.out.size (by simp) ?_; (case hd => rfl); (case hg => rfl); (case hr => first | (go_simp; done) | (go_simp; rfl)); (case hp => exact (Reps.c3 (k29_mkM _ _ _ (⟨5, 1, ⟨#[]⟩⟩ : S29)) (Reps.none _ _))); intro vld wld ho hb hg hnew; obtain ⟨Ald, cld, rfl⟩ := Kd.R_slice ho; have HOd := Aside0.mk ho; have HBd := Aside0.mk hb; have HGd := Aside0.mk (Below.grown (Below.refl _ _) hg (Nat.le_refl _) (fun _ hk => nomatch hk)); clear ho hb hg hnew) | ((with_reducible refine gate_dst (N := 30) rfl ?_); (try (refine gate_guard (by rfl) ?_; dsimp only)); refine Kd.R_lit (k29) w.heap.size 29 ?hg (N := 30) ?hd (xs := [(⟨6, 1, ⟨#[]⟩⟩ : S29)]) (inner := [.int .i64 6, .int .i64 1, .string ⟨#[]⟩]) (ok := fun _ => True) (okp := fun _ => True) ?hr ?hp (fun _ hk => hk) trivial HBd.out HBd.out.size (by simp) ?_; (case hd => rfl); (case hg => rfl); (case hr => first | (go_simp; done) | (go_simp; rfl)); (case hp => exact (Reps.c3 (k29_mkM _ _ _ (⟨6, 1, ⟨#[]⟩⟩ : S29)) (Reps.none _ _))); intro vle wle ho hb hg hnew; obtain ⟨Ale, cle, rfl⟩ := Kd.R_slice ho; have HOe := Aside0.mk ho; have HBe := Aside0.mk hb; have HGe := Aside0.mk (Below.grown (Below.refl _ _) hg (Nat.le_refl _) (fun _ hk => nomatch hk)); clear ho hb hg hnew) | ((with_reducible refine gate_dst (N := 31) rfl ?_); (try (refine gate_guard (by rfl) ?_; dsimp only)); refine Kd.R_lit (Kd.slice 29 k29) w.heap.size 22 ?hg (N := 31) ?hd (xs := [[(⟨5, 1, ⟨#[]⟩⟩ : S29)], [(⟨6, 1, ⟨#[]⟩⟩ : S29)]]) (inner := [.slice Ald 1 cld, .slice Ale 1 cle]) (ok := fun _ => True) (okp := fun _ => True) ?hr ?hp (fun _ hk => hk) trivial HBe.out HBe.out.size (by simp) ?_; (case hd => rfl); (case hg => rfl); (case hr => first | (go_simp; done) | (go_simp; rfl)); (case hp => exact (Reps.c1 (show Kd.M (Kd.slice 29 k29) _ _ _ [(⟨5, 1, ⟨#[]⟩⟩ : S29)] [.slice Ald [(⟨5, 1, ⟨#[]⟩⟩ : S29)].length cld] from ⟨_, rfl, Kd.R_below HOd.out HGe.out⟩) (Reps.c1 (show Kd.M (Kd.slice 29 k29) _ _ _ [(⟨6, 1, ⟨#[]⟩⟩ : S29)] [.slice Ale [(⟨6, 1, ⟨#[]⟩⟩ : S29)].length cle] from ⟨_, rfl, HOe.out⟩) (Reps.none _ _)))); intro vlf wlf ho hb hg hnew; obtain ⟨Alf, clf, rfl⟩ := Kd.R_slice ho; have HOf := Aside0.mk ho; have HBf := Aside0.mk hb; have HGf := Aside0.mk (Below.grown (Below.refl _ _) hg (Nat.le_refl _) (fun _ hk => nomatch hk)); clear ho hb hg hnew))
 refine (all_c 10 _ _ [[(⟨5, 1, ⟨#[]⟩⟩ : S29)], [(⟨6, 1, ⟨#[]⟩⟩ : S29)]] [(⟨5, 1, ⟨#[]⟩⟩ : S29), (⟨6, 1, ⟨#[]⟩⟩ : S29)] [(⟨5, 1, ⟨#[]⟩⟩ : S29), (⟨6, 1, ⟨#[]⟩⟩ : S29)] [(⟨5, 1, ⟨#[]⟩⟩ : S29), (⟨6, 1, ⟨#[]⟩⟩ : S29)] false _ (Kd.R_reads' HOf.out).2.2 (Kd.R_reads' HOf.out).2.1 (by simp) rfl bg7 bg8 (by simp) (by simp) bg9).mono ?_
 rintro e w6 ⟨v6, rfl, ho, hb⟩
 have HB6 := Aside0.mk (below_step HBf.out hb)
 have HO6 := Aside0.mk ((Kd.R_below (Kd.R_below (Kd.R_below (Kd.R_below HO5.out HGd.out) HGe.out) HGf.out) hb))
 have HQ6 := Aside0.mk ((((HQ5.out.below HGd.out).below HGe.out).below HGf.out).below hb)
 have BX6 := Aside0.mk (blk_below (blk_below (blk_below (blk_below BX5.out HGd.out) HGe.out) HGf.out) hb)
 clear ho hb BX5 HO5 HQ5 HB5 HBf HGd HGe HGf HBd HBe HOd HOe HOf
 obtain ⟨g5, c5, rfl, _, _, _, _⟩ := Kd.R_form HO6.out (by simp)
 obtain ⟨x0, _, _, _, _, _⟩ := row_E HO6.out 0 (by simp) (by simp)
 have y0 : w6.cell? ⟨gb, 0, none⟩ = some (.int .i64 2) := (blk_cell BX6.out 0).trans (by rw [HX.out]; rfl)
 replace x0 : w6.cell? ⟨g5, 0, none⟩ = some (.int .i64 2) := x0
 go_wp2_with (first | (go_at_call 13; refine (len_c _ w.heap.size gq [(⟨5, 0, ⟨#[]⟩⟩ : S29)] _ HQ6.out).mono ?_; rintro e w7 ⟨rfl, rfl⟩) | (go_at_call 14; refine (sort_c _ _ [(⟨2, 1, ⟨#[]⟩⟩ : S29), (⟨5, 1, ⟨#[]⟩⟩ : S29)] _ (Kd.R_reads' HO6.out).2.2 (Kd.R_reads' HO6.out).2.1 (by simp)).mono ?_; rintro e w8 ⟨v8, rfl, ho8, hb8⟩; have HB8 := Aside0.mk (below_step HB6.out hb8); have hl8 := (sortF_perm [(⟨2, 1, ⟨#[]⟩⟩ : S29), (⟨5, 1, ⟨#[]⟩⟩ : S29)]).length_eq; have HO8 := Aside0.mk ho8; obtain ⟨A8, c8, rfl⟩ := Kd.R_slice HO8.out; rw [hl8]; clear ho8 hb8))
 go_ret
 exact ⟨rfl, HB8.out⟩
def recensionlaw9_begun.f (_ : Nat) : Option Bool := some true
theorem recensionlaw9_begun.mono : ∀ k, LeO (recensionlaw9_begun.f k) (recensionlaw9_begun.f (k + 1)) := fun _ _ h => h
theorem recensionlaw9_begun.calls (k : Nat) (r : Bool) (w : World) (h : recensionlaw9_begun.f k = some r) :
  Calls Try.prog 7 #[] w fun e w' => e = .returned (.bool r) ∧ Below w.heap.size w w' := by
 obtain rfl := Option.some.inj h
 exact begun_c w
def merge_Sort.f (_ : Nat) (l0 : List S29) : Option (List S29) := if l0.length ≤ 1000 then some (sortF l0) else none
theorem merge_Sort.mono : ∀ a0 k, LeO (merge_Sort.f k a0) (merge_Sort.f (k + 1) a0) := fun _ _ _ h => h
theorem merge_Sort.calls (k : Nat) (A0 : Option Addr) (c0 : Nat) (l0 : List S29) (r : List S29) (w : World) (hr0 : Kd.C k29 w A0 l0.length l0) (hc0 : l0.length ≤ c0) (h : merge_Sort.f k l0 = some r) :
  Calls Try.prog 14 #[.slice A0 l0.length c0] w fun e w' => ∃ v, e = .returned v ∧ Kd.R k29 29 w' w.heap.size (fun _ => True) v r ∧ Below w.heap.size w w' := by
 unfold merge_Sort.f at h
 split at h
 ·rename_i hl
  obtain rfl := Option.some.inj h
  exact sort_c A0 c0 l0 w hr0 hc0 hl
 ·cases h
theorem tailC_len (l : List S29) : ∀ p : S29, (tailC p l).length ≤ l.length := by
 induction l with
 | nil => intro p; exact Nat.le_refl _
 | cons x l ih =>
  intro p
  simp only [tailC]
  split
  ·exact Nat.le_trans (ih x) (Nat.le_succ _)
  ·exact Nat.succ_le_succ (ih x)
def merge_All.f (k : Nat) (l0 : List (List S29)) : Option (List S29 × Bool) := if l0.length ≤ 1000 ∧ l0.flatten.length ≤ 1000 then (edit_May.f k (compF (sortF l0.flatten)) 9223372036854775807).bind fun b => some (if b = true then compF (sortF l0.flatten) else [], b) else none
theorem merge_All.mono : ∀ a0 k, LeO (merge_All.f k a0) (merge_All.f (k + 1) a0) := by
 intro a0 k r h
 unfold merge_All.f at h ⊢
 split at h
 ·rename_i hl
  rw [if_pos hl]
  obtain ⟨b, hb, h⟩ := Option.bind_eq_some_iff.1 h
  exact Option.bind_eq_some_iff.2 ⟨b, edit_May.mono _ _ _ _ hb, h⟩
 ·cases h
theorem merge_All.calls (k : Nat) (A0 : Option Addr) (c0 : Nat) (l0 : List (List S29)) (r0 : List S29) (r1 : Bool) (w : World) (hr0 : Kd.C (Kd.slice 29 k29) w A0 l0.length l0) (hc0 : l0.length ≤ c0) (h : merge_All.f k l0 = some (r0, r1)) :
  Calls Try.prog 15 #[.slice A0 l0.length c0] w fun e w' => ∃ v, e = .returned (.tuple #[v, .bool r1]) ∧ Kd.R k29 29 w' w.heap.size (fun _ => True) v r0 ∧ Below w.heap.size w w' := by
 unfold merge_All.f at h
 split at h
 ·rename_i hl
  obtain ⟨b, hb, h⟩ := Option.bind_eq_some_iff.1 h
  obtain ⟨rfl, rfl⟩ := Prod.mk.inj (Option.some.inj h)
  exact all_c k A0 c0 l0 _ _ _ b w hr0 hc0 hl.1 rfl rfl rfl hl.2 (by rw [sortF_len]; exact hl.2) hb
 ·cases h

end Go.Proofs.Yteikeoeidaaiaaa.PMerge
