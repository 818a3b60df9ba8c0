-- Written by myprint.py (the prover's own turn of the printer); not trusted: Lean checks it.
import Derived.Test.YteikeoeidaaiaaaPMergex0
import Derived.Test.YteikeoeidaaiaaaPMergex2
import Derived.Test.YteikeoeidaaiaaaPMergex3
namespace Go.Proofs.Yteikeoeidaaiaaa.PMerge
open Go.RowKit Go.Proofs.YteikeoeidaaiaaaW.PrintWords Go.Proofs.YteikeoeidaaiaaaW.PrintLast Go.Proofs.YteikeoeidaaiaaaW.PrintMore
attribute [local go_sem] str_leq op_leq op_gtr op_geq max2_int min2_int max_two min_two max_three min_three max_four min_four   -- for this text's walks alone
set_option linter.unusedVariables false
set_option linter.unusedSimpArgs false

/-! ### recensionlaw9_sorted: function 10 -/
/-! ### the builtin copy within a row of one's own -/
def encE (ys : List S29) : List Value := ys.flatMap fun x => [.int .i64 x.f0, .int .i64 x.f1, .string x.f2]
theorem encE_cons (x : S29) (ys : List S29) : encE (x :: ys) = .int .i64 x.f0 :: .int .i64 x.f1 :: .string x.f2 :: encE ys := rfl
theorem encE_len (ys : List S29) : (encE ys).length = ys.length * 3 := by
 induction ys with
 | nil => rfl
 | cons x ys ih => rw [encE_cons, List.length_cons, List.length_cons, List.length_cons, ih, List.length_cons]; omega
theorem encE_app (xs ys : List S29) : encE (xs ++ ys) = encE xs ++ encE ys := by simp [encE]
theorem encE_drop (k : Nat) : ∀ ys : List S29, (encE ys).drop (k * 3) = encE (ys.drop k) := by
 induction k with
 | zero => intro ys; rfl
 | succ k ih =>
  intro ys
  cases ys with
  | nil => simp [encE]
  | cons x ys => rw [encE_cons, show (k + 1) * 3 = k * 3 + 3 by omega]; exact ih ys
theorem encE_take (k : Nat) (ys : List S29) : (encE ys).take (k * 3) = encE (ys.take k) := by
 have h : encE ys = encE (ys.take k) ++ encE (ys.drop k) := by rw [← encE_app, List.take_append_drop]
 rw [h]
 by_cases hk : k ≤ ys.length
 ·rw [List.take_left' (by rw [encE_len, List.length_take]; omega)]
 ·rw [List.drop_eq_nil_of_le (by omega), show encE [] = [] from rfl, List.append_nil, List.take_of_length_le (by rw [encE_len, List.length_take]; omega)]
theorem encE_one (ys : List S29) : ∀ v ∈ encE ys, v.oneCell' = true := by
 intro v hv
 simp only [encE, List.mem_flatMap] at hv
 obtain ⟨x, _, hv⟩ := hv
 simp only [List.mem_cons, List.not_mem_nil, or_false] at hv
 rcases hv with rfl | rfl | rfl <;> rfl
theorem reps_encE (W : World) (base : Nat) (ok : Nat → Prop) (ys : List S29) : Reps (k29.M W base ok) 3 ys (encE ys) := by
 induction ys with
 | nil => exact Reps.none _ _
 | cons x ys ih => exact Reps.c3 (k29_mkM W base ok x) ih
theorem encE_of {W : World} {base : Nat} {ok : Nat → Prop} : ∀ (ys : List S29) (inner : List Value), Reps (k29.M W base ok) 3 ys inner → inner = encE ys
 | [], inner, h => List.length_eq_zero_iff.1 (by rw [h.1]; rfl)
 | x :: ys, inner, h => by
  have h0 := k29_openM (h.2 0 x rfl)
  rw [Nat.zero_mul, List.drop_zero] at h0
  have h1 := encE_of ys (inner.drop (1 * 3)) (Kd.reps_drop (m := 1) h)
  rw [← List.take_append_drop 3 inner]
  rw [show inner.take 3 = _ from h0, show inner.drop 3 = _ from h1]
  rfl
theorem copy_row {W : World} {base : Nat} {ok : Nat → Prop} {g n c p : Nat} {ys : List S29} (HR : Kd.R k29 29 W base ok (.slice (some ⟨g, 0, none⟩) n c) ys) (hp : p + 1 < n) (t : TypeId) (cd cs : Nat) :
  ∃ W2, (Builtin.copy_ #[22, 22] t #[.slice (some ⟨g, (p + 1) * 3, none⟩) (n - (p + 1)) cd, .slice (some ⟨g, p * 3, none⟩) (n - p) cs]).run Try.prog W = .ok (.int .i64 ((n - (p + 1) : Nat) : Int)) W2 ∧
   Kd.R k29 29 W2 base ok (.slice (some ⟨g, 0, none⟩) n c) (ys.take (p + 1) ++ (ys.drop p).take (n - (p + 1))) ∧ W.grownBy W2 (some g) := by
 have hn := (Kd.R_reads' HR).1
 have hnc := (Kd.R_reads' HR).2.1
 obtain ⟨h0, inner, ho, hr⟩ := HR
 obtain rfl := encE_of ys inner hr
 obtain ⟨hl, hx | ⟨b, cap, cells, he, hb, hh, h5, h6, h7, h8⟩⟩ := ho
 ·cases hx.1
 ·injection he with e1 e2 e3
  injection e1 with e1
  injection e1 with e1
  subst e1; subst e3
  have h7' : cells.size = c * 3 := h7
  have h8' : cells.toList.take (n * 3) = encE ys := by rw [e2]; exact h8
  have hzl : (encE ((ys.drop p).take (n - (p + 1)))).length = (n - (p + 1)) * 3 := by rw [encE_len, List.length_take, List.length_drop]; congr 1; omega
  have hrd : ∀ j v, (encE ((ys.drop p).take (n - (p + 1))))[j]? = some v → W.cell? ((⟨g, p * 3, none⟩ : Addr).add j) = some v := by
   intro j v hj
   have hjl : j < (n - (p + 1)) * 3 := by rw [← hzl]; exact (List.getElem?_eq_some_iff.1 hj).1
   rw [← encE_take, ← encE_drop, List.getElem?_take_of_lt hjl, List.getElem?_drop, ← h8', List.getElem?_take_of_lt (by omega)] at hj
   have ha : (⟨g, p * 3, none⟩ : Addr).add j = ⟨g, p * 3 + j, none⟩ := by
    unfold Addr.add
    split
    ·rename_i hz; subst hz; rfl
    ·rfl
   rw [ha, cell_of_row W g _ cells 29 (0, 0) hh]
   simpa using hj
  have hld := run_loadCells_list (P := Try.prog) W ⟨g, p * 3, none⟩ _ hrd
  rw [hzl] at hld
  have hst := run_storeCells_cells (P := Try.prog) g ((p + 1) * 3) (encE ((ys.drop p).take (n - (p + 1)))) 0 W (fun j hj => by rw [cell_of_row W g _ cells 29 (0, 0) hh]; rw [hzl] at hj; simp; omega) (fun j _ => blk_frozen hh _) (encE_one _)
  have hfit : (p + 1) * 3 + (encE ((ys.drop p).take (n - (p + 1)))).length ≤ cells.size := by rw [hzl, h7']; omega
  obtain ⟨cur', hg', hs', hl'⟩ := setCells_row _ ((p + 1) * 3) W cells hh hfit
  obtain ⟨s1, s2, s3, s4⟩ := setCells_same g (encE ((ys.drop p).take (n - (p + 1)))) ((p + 1) * 3) W
  refine ⟨W.setCells g ((p + 1) * 3) (encE ((ys.drop p).take (n - (p + 1)))), ?_, ⟨h0, encE (ys.take (p + 1) ++ (ys.drop p).take (n - (p + 1))), ⟨?_, .inr ⟨g, c, cur', by rw [List.length_append, List.length_take, List.length_take, List.length_drop]; congr 1; omega, hb, hg', ?_, h6, by rw [hs', h7], ?_⟩⟩, reps_encE _ _ _ _⟩, ⟨s1, s2, s3, Nat.le_of_eq s4.symm, fun k hk hne => setCells_far _ _ k (fun e => hne (by rw [e]))⟩⟩
  ·have hmin : Nat.min (n - p) (n - (p + 1)) = n - (p + 1) := Nat.min_eq_right (by omega)
   have hi := infoE
   cases hq : Try.prog.info? 29 with
   | none => rw [hq] at hi; cases hi
   | some i =>
    have hsz : i.size = 3 := by rw [hq] at hi; simp at hi; exact hi.2.1
    simp [Builtin.copy_, run_underlying Try.underlying22, Builtin.lenOf, Builtin.firstCells, sizeOf, typeInfo, hq, hsz, hmin, hld, hst]
    rfl
  ·exact encE_len _
  ·rw [List.length_append, List.length_take, List.length_take, List.length_drop]; omega
  ·have hlt : (ys.take (p + 1) ++ (ys.drop p).take (n - (p + 1))).length = n := by rw [List.length_append, List.length_take, List.length_take, List.length_drop]; omega
   rw [hlt, hl', encE_app, show k29.sz = 3 from rfl]
   have hyl : (ys.take (p + 1)).length = p + 1 := by rw [List.length_take]; omega
   have e1 : cells.toList.take ((p + 1) * 3) = encE (ys.take (p + 1)) := by
    rw [← encE_take, ← h8', List.take_take, Nat.min_eq_left (by omega)]
   rw [e1]
   exact List.take_left' (by rw [List.length_append, encE_len, hzl, hyl]; omega)
theorem copy_none {W : World} {a : Addr} {A : Option Addr} {c cs : Nat} (t : TypeId) :
  (Builtin.copy_ #[22, 22] t #[.slice A 0 c, .slice (some a) 1 cs]).run Try.prog W = .ok (.int .i64 0) W := by
 have hi := infoE
 cases hq : Try.prog.info? 29 with
 | none => rw [hq] at hi; cases hi
 | some i =>
  cases A with
  | none => simp [Builtin.copy_, run_underlying Try.underlying22, Builtin.lenOf, Builtin.firstCells, sizeOf, typeInfo, hq, storeCells]; rfl
  | some b => simp [Builtin.copy_, run_underlying Try.underlying22, Builtin.lenOf, Builtin.firstCells, sizeOf, typeInfo, hq, storeCells]; rfl
theorem ins_copy {α : Type} (os : List α) (z x : α) (p n : Nat) (hp : p < os.length) (hn : (os ++ [z]).length = n) : (((os ++ [z]).take (p + 1) ++ ((os ++ [z]).drop p).take (n - (p + 1))).set p x) = os.take p ++ x :: os.drop p := by
 have hn2 : n - (p + 1) = (os.drop p).length := by rw [← hn, List.length_append, List.length_drop, List.length_singleton]; omega
 rw [hn2, List.take_append_of_le_length (by omega), List.drop_append_of_le_length (by omega), List.take_left' rfl, List.take_succ_eq_append_getElem hp, List.append_assoc]
 rw [List.set_append_right _ _ (by rw [List.length_take]; omega)]
 rw [show p - (os.take p).length = 0 by rw [List.length_take]; omega]
 rfl
theorem ins_last {α : Type} (os : List α) (z x : α) : (os ++ [z]).set os.length x = os.take os.length ++ x :: os.drop os.length := by
 rw [List.set_append_right _ _ (Nat.le_refl _), Nat.sub_self, List.take_length, List.drop_length]
 rfl
theorem less_lt (a b : S29) : recensionlaw9_less.f a.f0 a.f1 a.f2 b.f0 b.f1 b.f2 = some (ltE a b) := by
 have h : ∀ r : Bool, (r = true ↔ ltE a b = true) → some r = some (ltE a b) := fun r hr => congrArg some (Bool.eq_iff_iff.2 hr)
 unfold recensionlaw9_less.f
 split
 ·rename_i h0
  split
  ·rename_i h1
   exact h _ (by rw [ltE_iff]; simp [h0, h1])
  ·rename_i h1
   exact h _ (by rw [ltE_iff, decide_eq_true_eq]; simp [h0, h1])
 ·rename_i h0
  exact h _ (by rw [ltE_iff, decide_eq_true_eq]; simp [h0])
set_option maxHeartbeats 4000000 in
set_option maxRecDepth 100000 in
theorem sorted_c (A : Option Addr) (c : Nat) (xs : List S29) (w : World) (hr : Kd.C k29 w A xs.length xs) (hc : xs.length ≤ c) (hl : xs.length ≤ 1000) :
  Calls Try.prog 10 #[.slice A xs.length c] w fun e w' => ∃ v, e = .returned v ∧ Kd.R k29 29 w' w.heap.size (fun _ => True) v (sortF xs) ∧ Below w.heap.size w w' := by
 have HR := Aside0.mk hr
 clear hr
 go_enter Try.func10, Try.ntmps10
 go_wp2_with fail
 go_loopw [3, 4] (fun ov iv wr => ∃ (i : Int) (os : List S29), iv = .int .i64 i ∧ 0 ≤ i ∧ i ≤ xs.length ∧ Aside0 (Kd.R k29 29 wr w.heap.size (fun _ => True) ov os) ∧ Aside0 (Below w.heap.size w wr) ∧ Aside0 (os.Pairwise leE) ∧ Aside0 (os.Perm (xs.take i.toNat))) (fun _ iv _ => xs.length - (intOf iv).toNat)
 case atStart => exact ⟨0, [], rfl, Int.le_refl _, by omega, ⟨Kd.R_nil _ _ _ _ _⟩, ⟨Below.refl _ _⟩, ⟨List.Pairwise.nil⟩, ⟨by simp⟩⟩
 case round =>
  obtain ⟨i, os, rfl, i0, il, HO, HB, HP1, HP2⟩ := hrel
  obtain ⟨Ao, co, rfl⟩ := Kd.R_slice HO.out
  by_cases hlt : i < (xs.length : Int)
  ·have b1 : decide (i < (xs.length : Int)) = true := decide_eq_true hlt
   obtain ⟨ad, rfl, x0, x1, x2⟩ := at_T29 HR.out i i0 hlt
   have HXW := Aside0.mk (And.intro x0 (And.intro x1 x2))
   replace x0 := (HB.out.cell (World.block_lt_of_cell? w _ x0)).trans x0
   replace x1 := (HB.out.cell (World.block_lt_of_cell? w _ x1)).trans x1
   replace x2 := (HB.out.cell (World.block_lt_of_cell? w _ x2)).trans x2
   have hn : i.toNat < xs.length := by omega
   have htk : xs.take (i.toNat + 1) = xs.take i.toNat ++ [rd_T29 xs i] := by
    rw [List.take_succ_eq_append_getElem hn]
    congr 2
    unfold rd_T29
    simp [hn]
   have HTK := Aside0.mk htk
   have HI := Aside0.mk (And.intro i0 hlt)
   have hol : os.length ≤ 1000 := by rw [HP2.out.length_eq, List.length_take]; omega
   generalize rd_T29 xs i = x at x0 x1 x2 HTK HXW
   have p1 := eq_true i0
   have p2 := eq_true hlt
   have e12 : IntKind.i64.wrap (i + 1) = i + 1 := IntWalk.i64_in _ (by omega)
   clear htk hn i0 hlt il
   go_upto_block 2 with fail
   go_cut [5] from 14 to 29 (fun av wc => ∃ q : Int, av = .int .i64 q ∧ 0 ≤ q ∧ q ≤ os.length ∧ Aside0 (0 < q → leE (gE os (q.toNat - 1)) x) ∧ Aside0 (Kd.R k29 29 wc w.heap.size (fun _ => True) (.slice Ao os.length co) os) ∧ Aside0 (Below w.heap.size w wc) ∧ Aside0 (wc.cell? (ad.add (i.toNat * 3)) = some (.int .i64 x.f0) ∧ wc.cell? ⟨(ad.add (i.toNat * 3)).block, (ad.add (i.toNat * 3)).off + 1, none⟩ = some (.int .i64 x.f1) ∧ wc.cell? ⟨(ad.add (i.toNat * 3)).block, (ad.add (i.toNat * 3)).off + 2, none⟩ = some (.string x.f2)) ∧ Aside0 (∀ k : Nat, q ≤ k → k < os.length → ltE x (gE os k) = true))
   case first =>
    go_wp2_with fail
    go_loopw [5] (fun av wi => ∃ q : Int, av = .int .i64 q ∧ 0 ≤ q ∧ q ≤ os.length ∧ Aside0 (Kd.R k29 29 wi w.heap.size (fun _ => True) (.slice Ao os.length co) os) ∧ Aside0 (Below w.heap.size w wi) ∧ Aside0 (wi.cell? (ad.add (i.toNat * 3)) = some (.int .i64 x.f0) ∧ wi.cell? ⟨(ad.add (i.toNat * 3)).block, (ad.add (i.toNat * 3)).off + 1, none⟩ = some (.int .i64 x.f1) ∧ wi.cell? ⟨(ad.add (i.toNat * 3)).block, (ad.add (i.toNat * 3)).off + 2, none⟩ = some (.string x.f2)) ∧ Aside0 (∀ k : Nat, q ≤ k → k < os.length → ltE x (gE os k) = true)) (fun av _ => (intOf av).toNat)
    case atStart => exact ⟨(os.length : Int), rfl, by omega, Int.le_refl _, HO, HB, ⟨⟨x0, x1, x2⟩⟩, ⟨fun k h1 h2 => by omega⟩⟩
    case round =>
     clear HO HB x0 x1 x2
     obtain ⟨q, rfl, q0, ql, HO, HB, HX, HG⟩ := hrel
     obtain ⟨x0, x1, x2⟩ := HX.out
     by_cases hq : 0 < q
     ·have b2 : decide (0 < q) = true := decide_eq_true hq
      obtain ⟨p, hp⟩ : ∃ p, q - 1 = p := ⟨_, rfl⟩
      have e1 : IntKind.i64.wrap (q - 1) = p := (IntWalk.i64_in _ (by omega)).trans hp
      obtain ⟨g, cg, e', _, _, _, _⟩ := Kd.R_form HO.out (by omega)
      injection e' with e1' e2' e3'
      subst e1'
      obtain ⟨y0, y1, y2, _, _, _⟩ := row_E HO.out p (by omega) (by omega)
      obtain ⟨y, hy⟩ : ∃ y, rd_T29 os p = y := ⟨_, rfl⟩
      rw [hy] at y0 y1 y2
      have p3 := eq_true (show 0 ≤ p by omega)
      have p4 := eq_true (show p < (os.length : Int) by omega)
      have HQ := Aside0.mk (And.intro hq (And.intro hp hy))
      clear hq hp hy e2' e3' HX
      go_wp2_with fail
      refine start_ (n := 14) (S := fun w' => w'.cell? (ad.add (i.toNat * 3)) = some (.int .i64 x.f0) ∧ w'.cell? ⟨(ad.add (i.toNat * 3)).block, (ad.add (i.toNat * 3)).off + 1, none⟩ = some (.int .i64 x.f1) ∧ w'.cell? ⟨(ad.add (i.toNat * 3)).block, (ad.add (i.toNat * 3)).off + 2, none⟩ = some (.string x.f2) ∧ w'.cell? ⟨g, p.toNat * 3, none⟩ = some (.int .i64 y.f0) ∧ w'.cell? ⟨g, p.toNat * 3 + 1, none⟩ = some (.int .i64 y.f1) ∧ w'.cell? ⟨g, p.toNat * 3 + 2, none⟩ = some (.string y.f2)) (ds := []) #[false, false, false, false, false, false, false, false, false, false, false, false, false, false] (by kernel_rfl) rfl rfl ⟨x0, x1, x2, y0, y1, y2⟩ (fun hHeld => ?_)
      refine pure_ (i := 0) (N := some 14) (v := ?_) (a' := ?_) #[true, false, false, false, false, false, false, false, false, false, false, false, false, false] rfl rfl (by kernel_rfl) (fun _ _ _ h => h) (Or.inl ⟨by rfl, ?_⟩) ?_ ?_
      rotate_left
      ·intro w'
       go_simp
       with_reducible rfl
      rotate_left
      ·simp only [Act.put, List.setIfInBounds_toArray, List.set_cons_zero, List.set_cons_succ, i64_w, i32_w]
       rfl
      refine pure_ (i := 1) (N := some 15) (v := ?_) (a' := ?_) #[true, true, false, false, false, false, false, false, false, false, false, false, false, false] rfl rfl (by kernel_rfl) (fun _ _ _ h => h) (Or.inl ⟨by rfl, ?_⟩) ?_ ?_
      rotate_left
      ·intro w'
       go_simp
       with_reducible rfl
      rotate_left
      ·simp only [Act.put, List.setIfInBounds_toArray, List.set_cons_zero, List.set_cons_succ, i64_w, i32_w]
       rfl
      refine pure_ (i := 2) (N := some 16) (v := ?_) (a' := ?_) #[true, true, true, false, false, false, false, false, false, false, false, false, false, false] rfl rfl (by kernel_rfl) (fun _ _ _ h => h) (Or.inl ⟨by rfl, ?_⟩) ?_ ?_
      rotate_left
      ·intro w'
       go_simp
       with_reducible rfl
      rotate_left
      ·simp only [Act.put, List.setIfInBounds_toArray, List.set_cons_zero, List.set_cons_succ, i64_w, i32_w]
       rfl
      refine pure_ (i := 3) (N := some 17) (v := ?_) (a' := ?_) #[true, true, true, true, false, false, false, false, false, false, false, false, false, false] rfl rfl (by kernel_rfl) (fun _ _ _ h => h) (Or.inl ⟨by rfl, ?_⟩) ?_ ?_
      rotate_left
      ·intro w'
       go_simp
       with_reducible rfl
      rotate_left
      ·simp only [Act.put, List.setIfInBounds_toArray, List.set_cons_zero, List.set_cons_succ, i64_w, i32_w]
       rfl
      refine pure_ (i := 4) (N := some 18) (v := ?_) (a' := ?_) #[true, true, true, true, true, false, false, false, false, false, false, false, false, false] rfl rfl (by kernel_rfl) (fun _ _ _ h => h) (Or.inl ⟨by rfl, ?_⟩) ?_ ?_
      rotate_left
      ·intro w'
       go_simp
       with_reducible rfl
      rotate_left
      ·simp only [Act.put, List.setIfInBounds_toArray, List.set_cons_zero, List.set_cons_succ, i64_w, i32_w]
       rfl
      refine pure_ (i := 5) (N := some 19) (v := ?_) (a' := ?_) #[true, true, true, true, true, true, false, false, false, false, false, false, false, false] rfl rfl (by kernel_rfl) (fun _ _ _ h => h) (Or.inl ⟨by rfl, ?_⟩) ?_ ?_
      rotate_left
      ·intro w'
       go_simp
       with_reducible rfl
      rotate_left
      ·simp only [Act.put, List.setIfInBounds_toArray, List.set_cons_zero, List.set_cons_succ, i64_w, i32_w]
       rfl
      refine pure_ (i := 7) (N := some 21) (v := ?_) (a' := ?_) #[true, true, true, true, true, true, false, true, false, false, false, false, false, false] rfl rfl (by kernel_rfl) (fun _ _ _ h => h) (Or.inl ⟨by rfl, ?_⟩) ?_ ?_
      rotate_left
      ·intro w'
       go_simp
       with_reducible rfl
      rotate_left
      ·simp only [Act.put, List.setIfInBounds_toArray, List.set_cons_zero, List.set_cons_succ, i64_w, i32_w]
       rfl
      refine pure_ (i := 8) (N := some 22) (v := ?_) (a' := ?_) #[true, true, true, true, true, true, false, true, true, false, false, false, false, false] rfl rfl (by kernel_rfl) (fun _ _ _ h => h) (Or.inl ⟨by rfl, ?_⟩) ?_ ?_
      rotate_left
      ·intro w'
       go_simp
       with_reducible rfl
      rotate_left
      ·simp only [Act.put, List.setIfInBounds_toArray, List.set_cons_zero, List.set_cons_succ, i64_w, i32_w]
       rfl
      refine pure_ (i := 9) (N := some 23) (v := ?_) (a' := ?_) #[true, true, true, true, true, true, false, true, true, true, false, false, false, false] rfl rfl (by kernel_rfl) (fun _ _ _ h => h) (Or.inl ⟨by rfl, ?_⟩) ?_ ?_
      rotate_left
      ·intro w'
       go_simp
       with_reducible rfl
      rotate_left
      ·simp only [Act.put, List.setIfInBounds_toArray, List.set_cons_zero, List.set_cons_succ, i64_w, i32_w]
       rfl
      refine pure_ (i := 10) (N := some 24) (v := ?_) (a' := ?_) #[true, true, true, true, true, true, false, true, true, true, true, false, false, false] rfl rfl (by kernel_rfl) (fun _ _ _ h => h) (Or.inl ⟨by rfl, ?_⟩) ?_ ?_
      rotate_left
      ·intro w'
       go_simp
       with_reducible rfl
      rotate_left
      ·simp only [Act.put, List.setIfInBounds_toArray, List.set_cons_zero, List.set_cons_succ, i64_w, i32_w]
       rfl
      refine take_ (i := 6) (N := some 20) (v := ?_) (a' := ?_) #[true, true, true, true, true, true, true, true, true, true, true, false, false, false] rfl rfl (by kernel_rfl) (fun _ _ _ h => h) (Or.inl ⟨by rfl, ?_⟩) hHeld ?_ ?_
      rotate_left
      ·rintro w' ⟨s0, s1, s2, s3, s4, s5⟩
       go_simp
       with_reducible rfl
      rotate_left
      ·simp only [Act.put, List.setIfInBounds_toArray, List.set_cons_zero, List.set_cons_succ, i64_w, i32_w]
       rfl
      refine take_ (i := 11) (N := some 25) (v := ?_) (a' := ?_) #[true, true, true, true, true, true, true, true, true, true, true, true, false, false] rfl rfl (by kernel_rfl) (fun _ _ _ h => h) (Or.inl ⟨by rfl, ?_⟩) hHeld ?_ ?_
      rotate_left
      ·rintro w' ⟨s0, s1, s2, s3, s4, s5⟩
       go_simp
       with_reducible rfl
      rotate_left
      ·simp only [Act.put, List.setIfInBounds_toArray, List.set_cons_zero, List.set_cons_succ, i64_w, i32_w]
       rfl
      refine one_ (i := 12) (N := some 26) #[true, true, true, true, true, true, true, true, true, true, true, true, true, false] rfl rfl (by kernel_rfl) (by decide) (fun K hK => ?_)
      refine goes_ Try.func19 (by kernel_rfl) rfl #[vE x, vE y] (by rfl) rfl rfl (by simp only [List.map_toArray, List.map_cons, List.map_nil]; rfl) ?_
      with_reducible refine (recensionlaw9_less.calls x.f0 x.f1 x.f2 y.f0 y.f1 y.f2 (ltE x y) _ (less_lt x y)).mono ?_
      rintro e w1 ⟨rfl, hb⟩
      have HO1 := Aside0.mk (Kd.R_below (Kd.R_drew HO.out) hb)
      have HB1 := Aside0.mk (below_step (below_drew1 HB.out) hb)
      replace x0 := (hb.cell (World.block_lt_of_cell? _ _ x0)).trans x0
      replace x1 := (hb.cell (World.block_lt_of_cell? _ _ x1)).trans x1
      replace x2 := (hb.cell (World.block_lt_of_cell? _ _ x2)).trans x2
      replace y0 := (hb.cell (World.block_lt_of_cell? _ _ y0)).trans y0
      replace y1 := (hb.cell (World.block_lt_of_cell? _ _ y1)).trans y1
      replace y2 := (hb.cell (World.block_lt_of_cell? _ _ y2)).trans y2
      refine ⟨_, rfl, ?_⟩
      refine hK.out _ _ ⟨x0, x1, x2, y0, y1, y2⟩ (fun hHeld => ?_)
      clear hK K
      refine norm_ (a' := ?_) ?_ ?_
      rotate_left
      ·show Act.put _ (some 26) _ = _
       simp only [Act.put, List.setIfInBounds_toArray, List.set_cons_zero, List.set_cons_succ, i64_w, i32_w]
       rfl
      refine pure_ (i := 13) (N := some 27) (v := ?_) (a' := ?_) #[true, true, true, true, true, true, true, true, true, true, true, true, true, true] rfl rfl (by kernel_rfl) (fun _ _ _ h => h) (Or.inl ⟨by rfl, ?_⟩) ?_ ?_
      rotate_left
      ·intro w'
       go_simp
       with_reducible rfl
      rotate_left
      ·simp only [Act.put, List.setIfInBounds_toArray, List.set_cons_zero, List.set_cons_succ, i64_w, i32_w]
       rfl
      refine done_ (by kernel_rfl) ?_
      by_cases hk : ltE x y = true
      ·rw [hk]
       clear y0 y1 y2 p3 p4 HO HB hHeld
       go_wp2_with fail
       go_roundw
       case rel => exact ⟨p, rfl, by have := HQ.out.1; have := HQ.out.2.1; omega, by have := HQ.out.2.1; omega, HO1, HB1, ⟨⟨x0, x1, x2⟩⟩, ⟨fun k h1 h2 => by
        have hq := HQ.out
        rcases (by have := hq.2.1; omega : (k : Int) = p ∨ q ≤ k) with h | h
        ·rw [← gE_rd, h, hq.2.2]; exact hk
        ·exact HG.out k h h2⟩⟩
       case measure => have := HQ.out.1; have := HQ.out.2.1; simp [intOf]; omega
      ·have hk2 : ltE x y = false := by simpa using hk
       have H1 := Aside0.mk (show 0 < q → leE (gE os (q.toNat - 1)) x from fun _ => by
        have hq := HQ.out
        rw [← gE_rd, show ((q.toNat - 1 : Nat) : Int) = p by have := hq.1; have := hq.2.1; omega, hq.2.2]
        exact hk2)
       clear y0 y1 y2 hk p3 p4 HO HB HQ e1
       rw [hk2]
       go_wp2_with fail
       go_meet
       case rel => exact ⟨q, rfl, by omega, by omega, H1, HO1, HB1, ⟨⟨x0, x1, x2⟩⟩, HG⟩
     ·obtain rfl : q = 0 := by omega
      have b2 : decide ((0 : Int) < 0) = false := decide_eq_false (by omega)
      have H1 := Aside0.mk (show (0 : Int) < 0 → leE (gE os ((0 : Int).toNat - 1)) x from fun h => absurd h (by omega))
      have HO1 := Aside0.mk (Kd.R_drew HO.out)
      have HB1 := Aside0.mk (below_drew1 HB.out)
      replace x0 : wr.drew.cell? (ad.add (i.toNat * 3)) = some (.int .i64 x.f0) := x0
      replace x1 : wr.drew.cell? ⟨(ad.add (i.toNat * 3)).block, (ad.add (i.toNat * 3)).off + 1, none⟩ = some (.int .i64 x.f1) := x1
      replace x2 : wr.drew.cell? ⟨(ad.add (i.toNat * 3)).block, (ad.add (i.toNat * 3)).off + 2, none⟩ = some (.string x.f2) := x2
      clear hq HX HO HB
      go_wp2_with fail
      refine start_ (n := 14) (S := fun w' => True) (ds := []) #[false, false, false, false, false, false, false, false, false, false, false, false, false, false] (by kernel_rfl) rfl rfl trivial (fun hHeld => ?_)
      generalize wr.drew = w1 at x0 x1 x2 HO1 HB1 hHeld ⊢
      refine pure_ (i := 0) (N := some 14) (v := ?_) (a' := ?_) #[true, false, false, false, false, false, false, false, false, false, false, false, false, false] rfl rfl (by kernel_rfl) (fun _ _ _ h => h) (Or.inl ⟨by rfl, ?_⟩) ?_ ?_
      rotate_left
      ·intro w'
       go_simp
       with_reducible rfl
      rotate_left
      ·simp only [Act.put, List.setIfInBounds_toArray, List.set_cons_zero, List.set_cons_succ, i64_w, i32_w]
       rfl
      refine pure_ (i := 1) (N := some 15) (v := ?_) (a' := ?_) #[true, true, false, false, false, false, false, false, false, false, false, false, false, false] rfl rfl (by kernel_rfl) (fun _ _ _ h => h) (Or.inl ⟨by rfl, ?_⟩) ?_ ?_
      rotate_left
      ·intro w'
       go_simp
       with_reducible rfl
      rotate_left
      ·simp only [Act.put, List.setIfInBounds_toArray, List.set_cons_zero, List.set_cons_succ, i64_w, i32_w]
       rfl
      refine pure_ (i := 2) (N := some 16) (v := ?_) (a' := ?_) #[true, true, true, false, false, false, false, false, false, false, false, false, false, false] rfl rfl (by kernel_rfl) (fun _ _ _ h => h) (Or.inl ⟨by rfl, ?_⟩) ?_ ?_
      rotate_left
      ·intro w'
       go_simp
       with_reducible rfl
      rotate_left
      ·simp only [Act.put, List.setIfInBounds_toArray, List.set_cons_zero, List.set_cons_succ, i64_w, i32_w]
       rfl
      refine pure_ (i := 3) (N := some 17) (v := undef) (a' := ?_) #[true, true, true, true, false, false, false, false, false, false, false, false, false, false] rfl rfl (by kernel_rfl) (fun _ _ _ h => h) (Or.inr ⟨by rfl, rfl⟩) ?_ ?_
      rotate_left
      ·simp only [Act.put, List.setIfInBounds_toArray, List.set_cons_zero, List.set_cons_succ, i64_w, i32_w]
       rfl
      refine pure_ (i := 4) (N := some 18) (v := undef) (a' := ?_) #[true, true, true, true, true, false, false, false, false, false, false, false, false, false] rfl rfl (by kernel_rfl) (fun _ _ _ h => h) (Or.inr ⟨by rfl, rfl⟩) ?_ ?_
      rotate_left
      ·simp only [Act.put, List.setIfInBounds_toArray, List.set_cons_zero, List.set_cons_succ, i64_w, i32_w]
       rfl
      refine pure_ (i := 5) (N := some 19) (v := undef) (a' := ?_) #[true, true, true, true, true, true, false, false, false, false, false, false, false, false] rfl rfl (by kernel_rfl) (fun _ _ _ h => h) (Or.inr ⟨by rfl, rfl⟩) ?_ ?_
      rotate_left
      ·simp only [Act.put, List.setIfInBounds_toArray, List.set_cons_zero, List.set_cons_succ, i64_w, i32_w]
       rfl
      refine pure_ (i := 6) (N := some 20) (v := undef) (a' := ?_) #[true, true, true, true, true, true, true, false, false, false, false, false, false, false] rfl rfl (by kernel_rfl) (fun _ _ _ h => h) (Or.inr ⟨by rfl, rfl⟩) ?_ ?_
      rotate_left
      ·simp only [Act.put, List.setIfInBounds_toArray, List.set_cons_zero, List.set_cons_succ, i64_w, i32_w]
       rfl
      refine pure_ (i := 7) (N := some 21) (v := undef) (a' := ?_) #[true, true, true, true, true, true, true, true, false, false, false, false, false, false] rfl rfl (by kernel_rfl) (fun _ _ _ h => h) (Or.inr ⟨by rfl, rfl⟩) ?_ ?_
      rotate_left
      ·simp only [Act.put, List.setIfInBounds_toArray, List.set_cons_zero, List.set_cons_succ, i64_w, i32_w]
       rfl
      refine pure_ (i := 8) (N := some 22) (v := undef) (a' := ?_) #[true, true, true, true, true, true, true, true, true, false, false, false, false, false] rfl rfl (by kernel_rfl) (fun _ _ _ h => h) (Or.inr ⟨by rfl, rfl⟩) ?_ ?_
      rotate_left
      ·simp only [Act.put, List.setIfInBounds_toArray, List.set_cons_zero, List.set_cons_succ, i64_w, i32_w]
       rfl
      refine pure_ (i := 9) (N := some 23) (v := undef) (a' := ?_) #[true, true, true, true, true, true, true, true, true, true, false, false, false, false] rfl rfl (by kernel_rfl) (fun _ _ _ h => h) (Or.inr ⟨by rfl, rfl⟩) ?_ ?_
      rotate_left
      ·simp only [Act.put, List.setIfInBounds_toArray, List.set_cons_zero, List.set_cons_succ, i64_w, i32_w]
       rfl
      refine pure_ (i := 10) (N := some 24) (v := undef) (a' := ?_) #[true, true, true, true, true, true, true, true, true, true, true, false, false, false] rfl rfl (by kernel_rfl) (fun _ _ _ h => h) (Or.inr ⟨by rfl, rfl⟩) ?_ ?_
      rotate_left
      ·simp only [Act.put, List.setIfInBounds_toArray, List.set_cons_zero, List.set_cons_succ, i64_w, i32_w]
       rfl
      refine pure_ (i := 11) (N := some 25) (v := undef) (a' := ?_) #[true, true, true, true, true, true, true, true, true, true, true, true, false, false] rfl rfl (by kernel_rfl) (fun _ _ _ h => h) (Or.inr ⟨by rfl, rfl⟩) ?_ ?_
      rotate_left
      ·simp only [Act.put, List.setIfInBounds_toArray, List.set_cons_zero, List.set_cons_succ, i64_w, i32_w]
       rfl
      refine pure_ (i := 12) (N := some 26) (v := undef) (a' := ?_) #[true, true, true, true, true, true, true, true, true, true, true, true, true, false] rfl rfl (by kernel_rfl) (fun _ _ _ h => h) (Or.inr ⟨by rfl, rfl⟩) ?_ ?_
      rotate_left
      ·simp only [Act.put, List.setIfInBounds_toArray, List.set_cons_zero, List.set_cons_succ, i64_w, i32_w]
       rfl
      refine pure_ (i := 13) (N := some 27) (v := ?_) (a' := ?_) #[true, true, true, true, true, true, true, true, true, true, true, true, true, true] rfl rfl (by kernel_rfl) (fun _ _ _ h => h) (Or.inl ⟨by rfl, ?_⟩) ?_ ?_
      rotate_left
      ·intro w'
       go_simp
       with_reducible rfl
      rotate_left
      ·simp only [Act.put, List.setIfInBounds_toArray, List.set_cons_zero, List.set_cons_succ, i64_w, i32_w]
       rfl
      refine done_ (by kernel_rfl) ?_
      go_wp2_with fail
      go_meet
      case rel => exact ⟨0, rfl, by omega, by omega, H1, HO1, HB1, ⟨⟨x0, x1, x2⟩⟩, HG⟩
   case rest =>
    clear HO HB x0 x1 x2
    obtain ⟨q, rfl, q0, ql, H1, HO1, HB1, HX, HG⟩ := hcut
    clear HX
    obtain ⟨p, rfl⟩ : ∃ p : Nat, q = (p : Int) := ⟨q.toNat, by omega⟩
    go_wp2_with (first | (at_builtin; go_loud ((refine Kd.R_append k29 (w0 := w) w.heap.size rfl (.tmp 30) (.tmp 32) 22 29 (.agg #[.int .i64 0, .int .i64 0, .string ⟨#[]⟩]) 32 rfl Try.underlying22 infoE rfl (by decide) (by decide) (.slice Ao os.length co) os z29 [.int .i64 0, .int .i64 0, .string ⟨#[]⟩] (fun _ => True) (fun _ => False) rfl rfl (k29_mkM _ w.heap.size _ z29) (fun _ h => h.elim) (fun _ _ => trivial) HO1.out HB1.out HB1.out.size (by omega) ?_; intro v5 w5 ho hb hg hat; obtain ⟨g5, c5, rfl, hgb, hgl, _, _⟩ := Kd.R_form ho (by simp); obtain ⟨n, hn⟩ : ∃ n, (os ++ [z29]).length = n := ⟨_, rfl⟩; rw [hn] at ho ⊢; have HO5 := Aside0.mk ho; have HB5 := Aside0.mk hb; have HN := Aside0.mk hn; have HGB := Aside0.mk hgb; clear ho hb hg hat hgl hgb hn))))
    have hn2 : n = os.length + 1 := by rw [← HN.out]; simp
    have hcap := (Kd.R_reads' HO5.out).2.1
    have H1' : 0 < p → leE (gE os (p - 1)) x := fun h => by have := H1.out (by omega); rwa [Int.toNat_natCast] at this
    have HSRT := Aside0.mk (ins_sorted (q := p) HP1.out (by omega) H1' (fun k h1 h2 => HG.out k (by omega) h2))
    have HPRM := Aside0.mk (show (os.take p ++ x :: os.drop p).Perm (xs.take (i + 1).toNat) from by
     rw [show (i + 1).toNat = i.toNat + 1 by have := HI.out.1; omega, HTK.out]
     exact ins_perm p HP2.out)
    clear H1 H1' HG HO1 HB1 HP1 HP2 HTK
    have w1 : IntKind.i64.wrap ((p : Int) + 1) = (p : Int) + 1 := IntWalk.i64_in _ (by omega)
    have w2 : ((p : Int) + 1).toNat = p + 1 := by omega
    have r1 := eq_true (show 0 ≤ (p : Int) by omega)
    have r2 := eq_true (show 0 ≤ (p : Int) + 1 by omega)
    have r3 := eq_true (show (p : Int) ≤ (n : Int) by omega)
    have r4 := eq_true (show (p : Int) + 1 ≤ (n : Int) by omega)
    have r5 := eq_true (show p ≤ n by omega)
    have r6 := eq_true (show p + 1 ≤ n by omega)
    have r7 := eq_true (show p ≤ c5 by omega)
    have r8 := eq_true (show p + 1 ≤ c5 by omega)
    have r9 := eq_false (show ¬ c5 = p by omega)
    have hpn : p < n := by omega
    have s1 := eq_true (show (p : Int) < (n : Int) by omega)
    have s2 := eq_true (show p < n by omega)
    rcases (by omega : p < os.length ∨ p = os.length) with hp | hp
    ·have r10 := eq_false (show ¬ c5 = p + 1 by omega)
     obtain ⟨W2, hcp, hr6, hg6⟩ := copy_row (Kd.R_drew HO5.out) (p := p) (by omega) 3 (c5 - (p + 1)) (c5 - p)
     have HO6 := Aside0.mk hr6
     have HB6 := Aside0.mk (Below.grown (below_drew1 HB5.out) hg6 HB5.out.size (fun k hk => by injection hk with hk; rw [← hk]; exact HGB.out))
     have HL := Aside0.mk (ins_copy os z29 x p n hp HN.out)
     clear hr6 hg6 HO5 HN hn2 hcap q0 ql hol
     refine start_ (n := 8) (S := fun w' => True) (ds := []) #[false, false, false, false, false, false, false, false] (by kernel_rfl) rfl rfl trivial (fun hHeld => ?_)
     refine pure_ (i := 0) (N := some 34) (v := ?_) (a' := ?_) #[true, false, false, false, false, false, false, false] rfl rfl (by kernel_rfl) (fun _ _ _ h => h) (Or.inl ⟨by rfl, ?_⟩) ?_ ?_
     rotate_left
     ·intro w'
      go_simp
      with_reducible rfl
     rotate_left
     ·simp only [Act.put, List.setIfInBounds_toArray, List.set_cons_zero, List.set_cons_succ, i64_w, i32_w]
      rfl
     refine pure_ (i := 1) (N := some 35) (v := ?_) (a' := ?_) #[true, true, false, false, false, false, false, false] rfl rfl (by kernel_rfl) (fun _ _ _ h => h) (Or.inl ⟨by rfl, ?_⟩) ?_ ?_
     rotate_left
     ·intro w'
      go_simp
      with_reducible rfl
     rotate_left
     ·simp only [Act.put, List.setIfInBounds_toArray, List.set_cons_zero, List.set_cons_succ, i64_w, i32_w]
      rfl
     refine pure_ (i := 2) (N := some 36) (v := ?_) (a' := ?_) #[true, true, true, false, false, false, false, false] rfl rfl (by kernel_rfl) (fun _ _ _ h => h) (Or.inl ⟨by rfl, ?_⟩) ?_ ?_
     rotate_left
     ·intro w'
      go_simp
      with_reducible rfl
     rotate_left
     ·simp only [Act.put, List.setIfInBounds_toArray, List.set_cons_zero, List.set_cons_succ, i64_w, i32_w]
      rfl
     refine pure_ (i := 3) (N := some 37) (v := ?_) (a' := ?_) #[true, true, true, true, false, false, false, false] rfl rfl (by kernel_rfl) (fun _ _ _ h => h) (Or.inl ⟨by rfl, ?_⟩) ?_ ?_
     rotate_left
     ·intro w'
      go_simp
      with_reducible rfl
     rotate_left
     ·simp only [Act.put, List.setIfInBounds_toArray, List.set_cons_zero, List.set_cons_succ, i64_w, i32_w]
      rfl
     refine pure_ (i := 4) (N := some 38) (v := ?_) (a' := ?_) #[true, true, true, true, true, false, false, false] rfl rfl (by kernel_rfl) (fun _ _ _ h => h) (Or.inl ⟨by rfl, ?_⟩) ?_ ?_
     rotate_left
     ·intro w'
      go_simp
      with_reducible rfl
     rotate_left
     ·simp only [Act.put, List.setIfInBounds_toArray, List.set_cons_zero, List.set_cons_succ, i64_w, i32_w]
      rfl
     refine pure_ (i := 5) (N := some 39) (v := ?_) (a' := ?_) #[true, true, true, true, true, true, false, false] rfl rfl (by kernel_rfl) (fun _ _ _ h => h) (Or.inl ⟨by rfl, ?_⟩) ?_ ?_
     rotate_left
     ·intro w'
      go_simp
      with_reducible rfl
     rotate_left
     ·simp only [Act.put, List.setIfInBounds_toArray, List.set_cons_zero, List.set_cons_succ, i64_w, i32_w]
      rfl
     refine pure_ (i := 6) (N := some 40) (v := ?_) (a' := ?_) #[true, true, true, true, true, true, true, false] rfl rfl (by kernel_rfl) (fun _ _ _ h => h) (Or.inl ⟨by rfl, ?_⟩) ?_ ?_
     rotate_left
     ·intro w'
      go_simp
      with_reducible rfl
     rotate_left
     ·simp only [Act.put, List.setIfInBounds_toArray, List.set_cons_zero, List.set_cons_succ, i64_w, i32_w]
      rfl
     refine one_ (i := 7) (N := some 41) #[true, true, true, true, true, true, true, true] rfl rfl (by kernel_rfl) (by decide) (fun K hK => ?_)
     refine value_ (w1 := ?_) (v := ?_) (by rfl) rfl ?_ ?_
     rotate_left 2
     ·go_simp
      constructor
      ·rfl
      ·rfl
     refine hK.out _ _ trivial (fun hHeld => ?_)
     clear hK K
     refine norm_ (a' := ?_) ?_ ?_
     rotate_left
     ·show Act.put _ (some 41) _ = _
      simp only [Act.put, List.setIfInBounds_toArray, List.set_cons_zero, List.set_cons_succ, i64_w, i32_w]
      rfl
     refine done_ (by kernel_rfl) ?_
     obtain ⟨x0, x1, x2⟩ := HXW.out
     replace x0 := (HB6.out.cell (World.block_lt_of_cell? w _ x0)).trans x0
     replace x1 := (HB6.out.cell (World.block_lt_of_cell? w _ x1)).trans x1
     replace x2 := (HB6.out.cell (World.block_lt_of_cell? w _ x2)).trans x2
     obtain ⟨z0, z1, z2, z3, z4, z5⟩ := row_E HO6.out (p : Int) (by omega) (by omega)
     have hset := R_set29 HO6.out (p : Int) (by omega) (by omega) x
     rw [Int.toNat_natCast] at hset z0 z1 z2 z3 z4 z5
     rw [HL.out] at hset
     have HS := Aside0.mk hset.1
     have HBS := Aside0.mk (below_set3 HB6.out HGB.out (p * 3) (p * 3 + 1) (p * 3 + 2) (.int .i64 x.f0) (.int .i64 x.f1) (.string x.f2))
     clear hset HO6 HB6 HL
     go_wp2_with fail
     go_roundw
     case rel => exact ⟨i + 1, _, rfl, by have := HI.out.1; omega, by have := HI.out.2; omega, HS, HBS, HSRT, HPRM⟩
     case measure => have := HI.out.1; have := HI.out.2; simp [intOf]; omega
    ·obtain rfl : n = p + 1 := by omega
     have hcp := fun (A : Option Addr) (c cs : Nat) => copy_none (W := w5.drew) (a := ⟨g5, p * 3, none⟩) (A := A) (c := c) (cs := cs) 3
     have HO6 := Aside0.mk (Kd.R_drew HO5.out)
     have HB6 := Aside0.mk (below_drew1 HB5.out)
     have HL := Aside0.mk (show (os ++ [z29]).set p x = os.take p ++ x :: os.drop p from by rw [hp]; exact ins_last os z29 x)
     have r11 := eq_true (show (p : Int) ≤ (p : Int) + 1 by omega)
     have r12 := eq_true (show (p : Int) < (p : Int) + 1 by omega)
     clear HO5 HB5 HN hn2 q0 ql hol hp
     by_cases hc5 : c5 = p + 1
     ·have r10 := eq_true hc5
      refine start_ (n := 8) (S := fun w' => True) (ds := []) #[false, false, false, false, false, false, false, false] (by kernel_rfl) rfl rfl trivial (fun hHeld => ?_)
      generalize w5.drew = W2 at hcp HO6 HB6 hHeld ⊢
      refine pure_ (i := 0) (N := some 34) (v := ?_) (a' := ?_) #[true, false, false, false, false, false, false, false] rfl rfl (by kernel_rfl) (fun _ _ _ h => h) (Or.inl ⟨by rfl, ?_⟩) ?_ ?_
      rotate_left
      ·intro w'
       go_simp
       with_reducible rfl
      rotate_left
      ·simp only [Act.put, List.setIfInBounds_toArray, List.set_cons_zero, List.set_cons_succ, i64_w, i32_w]
       rfl
      refine pure_ (i := 1) (N := some 35) (v := ?_) (a' := ?_) #[true, true, false, false, false, false, false, false] rfl rfl (by kernel_rfl) (fun _ _ _ h => h) (Or.inl ⟨by rfl, ?_⟩) ?_ ?_
      rotate_left
      ·intro w'
       go_simp
       with_reducible rfl
      rotate_left
      ·simp only [Act.put, List.setIfInBounds_toArray, List.set_cons_zero, List.set_cons_succ, i64_w, i32_w]
       rfl
      refine pure_ (i := 2) (N := some 36) (v := ?_) (a' := ?_) #[true, true, true, false, false, false, false, false] rfl rfl (by kernel_rfl) (fun _ _ _ h => h) (Or.inl ⟨by rfl, ?_⟩) ?_ ?_
      rotate_left
      ·intro w'
       go_simp
       with_reducible rfl
      rotate_left
      ·simp only [Act.put, List.setIfInBounds_toArray, List.set_cons_zero, List.set_cons_succ, i64_w, i32_w]
       rfl
      refine pure_ (i := 3) (N := some 37) (v := ?_) (a' := ?_) #[true, true, true, true, false, false, false, false] rfl rfl (by kernel_rfl) (fun _ _ _ h => h) (Or.inl ⟨by rfl, ?_⟩) ?_ ?_
      rotate_left
      ·intro w'
       go_simp
       with_reducible rfl
      rotate_left
      ·simp only [Act.put, List.setIfInBounds_toArray, List.set_cons_zero, List.set_cons_succ, i64_w, i32_w]
       rfl
      refine pure_ (i := 4) (N := some 38) (v := ?_) (a' := ?_) #[true, true, true, true, true, false, false, false] rfl rfl (by kernel_rfl) (fun _ _ _ h => h) (Or.inl ⟨by rfl, ?_⟩) ?_ ?_
      rotate_left
      ·intro w'
       go_simp
       with_reducible rfl
      rotate_left
      ·simp only [Act.put, List.setIfInBounds_toArray, List.set_cons_zero, List.set_cons_succ, i64_w, i32_w]
       rfl
      refine pure_ (i := 5) (N := some 39) (v := ?_) (a' := ?_) #[true, true, true, true, true, true, false, false] rfl rfl (by kernel_rfl) (fun _ _ _ h => h) (Or.inl ⟨by rfl, ?_⟩) ?_ ?_
      rotate_left
      ·intro w'
       go_simp
       with_reducible rfl
      rotate_left
      ·simp only [Act.put, List.setIfInBounds_toArray, List.set_cons_zero, List.set_cons_succ, i64_w, i32_w]
       rfl
      refine pure_ (i := 6) (N := some 40) (v := ?_) (a' := ?_) #[true, true, true, true, true, true, true, false] rfl rfl (by kernel_rfl) (fun _ _ _ h => h) (Or.inl ⟨by rfl, ?_⟩) ?_ ?_
      rotate_left
      ·intro w'
       go_simp
       with_reducible rfl
      rotate_left
      ·simp only [Act.put, List.setIfInBounds_toArray, List.set_cons_zero, List.set_cons_succ, i64_w, i32_w]
       rfl
      refine one_ (i := 7) (N := some 41) #[true, true, true, true, true, true, true, true] rfl rfl (by kernel_rfl) (by decide) (fun K hK => ?_)
      refine value_ (w1 := ?_) (v := ?_) (by rfl) rfl ?_ ?_
      rotate_left 2
      ·go_simp
       constructor
       ·rfl
       ·rfl
      refine hK.out _ _ trivial (fun hHeld => ?_)
      clear hK K
      refine norm_ (a' := ?_) ?_ ?_
      rotate_left
      ·show Act.put _ (some 41) _ = _
       simp only [Act.put, List.setIfInBounds_toArray, List.set_cons_zero, List.set_cons_succ, i64_w, i32_w]
       rfl
      refine done_ (by kernel_rfl) ?_
      obtain ⟨x0, x1, x2⟩ := HXW.out
      replace x0 := (HB6.out.cell (World.block_lt_of_cell? w _ x0)).trans x0
      replace x1 := (HB6.out.cell (World.block_lt_of_cell? w _ x1)).trans x1
      replace x2 := (HB6.out.cell (World.block_lt_of_cell? w _ x2)).trans x2
      obtain ⟨z0, z1, z2, z3, z4, z5⟩ := row_E HO6.out (p : Int) (by omega) (by omega)
      have hset := R_set29 HO6.out (p : Int) (by omega) (by omega) x
      rw [Int.toNat_natCast] at hset z0 z1 z2 z3 z4 z5
      rw [HL.out] at hset
      have HS := Aside0.mk hset.1
      have HBS := Aside0.mk (below_set3 HB6.out HGB.out (p * 3) (p * 3 + 1) (p * 3 + 2) (.int .i64 x.f0) (.int .i64 x.f1) (.string x.f2))
      clear hset HO6 HB6 HL
      go_wp2_with fail
      go_roundw
      case rel => exact ⟨i + 1, _, rfl, by have := HI.out.1; omega, by have := HI.out.2; omega, HS, HBS, HSRT, HPRM⟩
      case measure => have := HI.out.1; have := HI.out.2; simp [intOf]; omega
     ·have r10 := eq_false hc5
      refine start_ (n := 8) (S := fun w' => True) (ds := []) #[false, false, false, false, false, false, false, false] (by kernel_rfl) rfl rfl trivial (fun hHeld => ?_)
      generalize w5.drew = W2 at hcp HO6 HB6 hHeld ⊢
      refine pure_ (i := 0) (N := some 34) (v := ?_) (a' := ?_) #[true, false, false, false, false, false, false, false] rfl rfl (by kernel_rfl) (fun _ _ _ h => h) (Or.inl ⟨by rfl, ?_⟩) ?_ ?_
      rotate_left
      ·intro w'
       go_simp
       with_reducible rfl
      rotate_left
      ·simp only [Act.put, List.setIfInBounds_toArray, List.set_cons_zero, List.set_cons_succ, i64_w, i32_w]
       rfl
      refine pure_ (i := 1) (N := some 35) (v := ?_) (a' := ?_) #[true, true, false, false, false, false, false, false] rfl rfl (by kernel_rfl) (fun _ _ _ h => h) (Or.inl ⟨by rfl, ?_⟩) ?_ ?_
      rotate_left
      ·intro w'
       go_simp
       with_reducible rfl
      rotate_left
      ·simp only [Act.put, List.setIfInBounds_toArray, List.set_cons_zero, List.set_cons_succ, i64_w, i32_w]
       rfl
      refine pure_ (i := 2) (N := some 36) (v := ?_) (a' := ?_) #[true, true, true, false, false, false, false, false] rfl rfl (by kernel_rfl) (fun _ _ _ h => h) (Or.inl ⟨by rfl, ?_⟩) ?_ ?_
      rotate_left
      ·intro w'
       go_simp
       with_reducible rfl
      rotate_left
      ·simp only [Act.put, List.setIfInBounds_toArray, List.set_cons_zero, List.set_cons_succ, i64_w, i32_w]
       rfl
      refine pure_ (i := 3) (N := some 37) (v := ?_) (a' := ?_) #[true, true, true, true, false, false, false, false] rfl rfl (by kernel_rfl) (fun _ _ _ h => h) (Or.inl ⟨by rfl, ?_⟩) ?_ ?_
      rotate_left
      ·intro w'
       go_simp
       with_reducible rfl
      rotate_left
      ·simp only [Act.put, List.setIfInBounds_toArray, List.set_cons_zero, List.set_cons_succ, i64_w, i32_w]
       rfl
      refine pure_ (i := 4) (N := some 38) (v := ?_) (a' := ?_) #[true, true, true, true, true, false, false, false] rfl rfl (by kernel_rfl) (fun _ _ _ h => h) (Or.inl ⟨by rfl, ?_⟩) ?_ ?_
      rotate_left
      ·intro w'
       go_simp
       with_reducible rfl
      rotate_left
      ·simp only [Act.put, List.setIfInBounds_toArray, List.set_cons_zero, List.set_cons_succ, i64_w, i32_w]
       rfl
      refine pure_ (i := 5) (N := some 39) (v := ?_) (a' := ?_) #[true, true, true, true, true, true, false, false] rfl rfl (by kernel_rfl) (fun _ _ _ h => h) (Or.inl ⟨by rfl, ?_⟩) ?_ ?_
      rotate_left
      ·intro w'
       go_simp
       with_reducible rfl
      rotate_left
      ·simp only [Act.put, List.setIfInBounds_toArray, List.set_cons_zero, List.set_cons_succ, i64_w, i32_w]
       rfl
      refine pure_ (i := 6) (N := some 40) (v := ?_) (a' := ?_) #[true, true, true, true, true, true, true, false] rfl rfl (by kernel_rfl) (fun _ _ _ h => h) (Or.inl ⟨by rfl, ?_⟩) ?_ ?_
      rotate_left
      ·intro w'
       go_simp
       with_reducible rfl
      rotate_left
      ·simp only [Act.put, List.setIfInBounds_toArray, List.set_cons_zero, List.set_cons_succ, i64_w, i32_w]
       rfl
      refine one_ (i := 7) (N := some 41) #[true, true, true, true, true, true, true, true] rfl rfl (by kernel_rfl) (by decide) (fun K hK => ?_)
      refine value_ (w1 := ?_) (v := ?_) (by rfl) rfl ?_ ?_
      rotate_left 2
      ·go_simp
       constructor
       ·rfl
       ·rfl
      refine hK.out _ _ trivial (fun hHeld => ?_)
      clear hK K
      refine norm_ (a' := ?_) ?_ ?_
      rotate_left
      ·show Act.put _ (some 41) _ = _
       simp only [Act.put, List.setIfInBounds_toArray, List.set_cons_zero, List.set_cons_succ, i64_w, i32_w]
       rfl
      refine done_ (by kernel_rfl) ?_
      obtain ⟨x0, x1, x2⟩ := HXW.out
      replace x0 := (HB6.out.cell (World.block_lt_of_cell? w _ x0)).trans x0
      replace x1 := (HB6.out.cell (World.block_lt_of_cell? w _ x1)).trans x1
      replace x2 := (HB6.out.cell (World.block_lt_of_cell? w _ x2)).trans x2
      obtain ⟨z0, z1, z2, z3, z4, z5⟩ := row_E HO6.out (p : Int) (by omega) (by omega)
      have hset := R_set29 HO6.out (p : Int) (by omega) (by omega) x
      rw [Int.toNat_natCast] at hset z0 z1 z2 z3 z4 z5
      rw [HL.out] at hset
      have HS := Aside0.mk hset.1
      have HBS := Aside0.mk (below_set3 HB6.out HGB.out (p * 3) (p * 3 + 1) (p * 3 + 2) (.int .i64 x.f0) (.int .i64 x.f1) (.string x.f2))
      clear hset HO6 HB6 HL
      go_wp2_with fail
      go_roundw
      case rel => exact ⟨i + 1, _, rfl, by have := HI.out.1; omega, by have := HI.out.2; omega, HS, HBS, HSRT, HPRM⟩
      case measure => have := HI.out.1; have := HI.out.2; simp [intOf]; omega
  ·have b1 : decide (i < (xs.length : Int)) = false := decide_eq_false hlt
   have hq : xs.take i.toNat = xs := List.take_of_length_le (by omega)
   have HS := Aside0.mk (sort_uniq HP1.out (show os.Perm xs from hq ▸ HP2.out))
   clear hlt i0 il hq
   go_wp2_with fail
   go_ret
   exact ⟨_, rfl, by rw [HS.out]; exact HO.out, HB.out⟩
def recensionlaw9_sorted.f (_ : Nat) (l0 : List S29) : Option (List S29) := if l0.length ≤ 1000 then some (sortF l0) else none
theorem recensionlaw9_sorted.mono : ∀ a0 k, LeO (recensionlaw9_sorted.f k a0) (recensionlaw9_sorted.f (k + 1) a0) := fun _ _ _ h => h
theorem recensionlaw9_sorted.calls (k : Nat) (A0 : Option Addr) (c0 : Nat) (l0 : List S29) (r : List S29) (w : World) (hr0 : Kd.C k29 w A0 l0.length l0) (hc0 : l0.length ≤ c0) (h : recensionlaw9_sorted.f k l0 = some r) :
  Calls Try.prog 10 #[.slice A0 l0.length c0] w fun e w' => ∃ v, e = .returned v ∧ Kd.R k29 29 w' w.heap.size (fun _ => True) v r ∧ Below w.heap.size w w' := by
 unfold recensionlaw9_sorted.f at h
 split at h
 ·rename_i hl
  obtain rfl := Option.some.inj h
  exact sorted_c A0 c0 l0 w hr0 hc0 hl
 ·cases h

end Go.Proofs.Yteikeoeidaaiaaa.PMerge
