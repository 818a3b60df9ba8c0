-- Written by myprint.py (the prover's own turn of the printer); not trusted: Lean checks it.
import Derived.Test.YthjbcpakpfdkaaaPStackx0
import Derived.Test.YthjbcpakpfdkaaaPStackx2
import Derived.Test.YthjbcpakpfdkaaaPStackx3
namespace Go.Proofs.Ythjbcpakpfdkaaa.PStack
open Go.RowKit Go.Proofs.YthjbcpakpfdkaaaW.PrintWords Go.Proofs.YthjbcpakpfdkaaaW.PrintLast Go.Proofs.YthjbcpakpfdkaaaW.PrintMore
attribute [local go_sem] str_leq op_leq op_gtr op_geq max2_int min2_int max_two min_two max_three min_three max_four min_four   -- for this text's walks alone
set_option linter.unusedVariables false
set_option linter.unusedSimpArgs false

/-! ### recensionlaw25_begun: function 9 -/
/-! ### two rows of steps behind a pointer -/
/-- A step: a row of changes. -/
abbrev kS : Kd (List S56) := Kd.slice 56 k56
/-- The stack at block g (its struct's type T, its rows' elements' type e): all its blocks are P's. -/
def St (T e : Nat) (P : Nat → Prop) (base : Nat) (W : World) (g : Nat) (U R : List (List S56)) : Prop :=
 base ≤ g ∧ P g ∧ ∃ vu vr, W.heap[g]? = some (.cells #[vu, vr] T (0, 0)) ∧ Kd.Q kS e W base (fun k => P k ∧ some k ≠ vr.ownBlock) vu U ∧ Kd.Q kS e W base (fun k => P k ∧ some k ≠ vu.ownBlock) vr R
section
variable {T e : Nat} {P P' S : Nat → Prop} {base : Nat} {W W2 : World} {g : Nat} {U R : List (List S56)}
theorem St.lt (h : St T e P base W g U R) : g < W.heap.size := by
 obtain ⟨_, _, vu, vr, hb, _⟩ := h
 exact blk_lt hb
theorem St.mono (h : St T e P base W g U R) (hp : ∀ k, P k → P' k) : St T e P' base W g U R := by
 obtain ⟨h1, h2, vu, vr, hb, hu, hr⟩ := h
 exact ⟨h1, hp _ h2, vu, vr, hb, Kd.Q_mono hu (fun k hk => ⟨hp k hk.1, hk.2⟩), Kd.Q_mono hr (fun k hk => ⟨hp k hk.1, hk.2⟩)⟩
theorem St.kept (h : St T e P base W g U R) (hk : Kept W W2 S) (hne : ∀ k, P k → ¬ S k) : St T e P base W2 g U R := by
 obtain ⟨h1, h2, vu, vr, hb, hu, hr⟩ := h
 exact ⟨h1, h2, vu, vr, blk_kept hb hk (hne g h2), Kd.Q_kept hu hk (fun k hp => hne k hp.1), Kd.Q_kept hr hk (fun k hp => hne k hp.1)⟩
theorem St.below (h : St T e P base W g U R) (hb : Below W.heap.size W W2) : St T e P base W2 g U R := h.kept (Kept.of_below hb (fun _ => False)) (fun _ _ hf => hf)
theorem St.drewN (h : St T e P base W g U R) (n : Nat) : St T e P base (W.drewN n) g U R := h.below (pw_below_drewN (Below.refl _ _) n)
theorem St.drew (h : St T e P base W g U R) : St T e P base W.drew g U R := h.below (below_drew1 (Below.refl _ _))
theorem St.alloc (h : St T e P base W g U R) (o : Obj) : St T e P base (W.alloc o) g U R := h.below (below_alloc (Below.refl _ _) o)
/-- Its blocks are the world's. -/
theorem St.bound (h : St T e P base W g U R) : St T e (fun k => P k ∧ k < W.heap.size) base W g U R := by
 have hl := h.lt
 obtain ⟨h1, h2, vu, vr, hb, hu, hr⟩ := h
 exact ⟨h1, ⟨h2, hl⟩, vu, vr, hb, Kd.Q_mono (Kd.Q_bound hu) (fun k hk => ⟨⟨hk.1.1, hk.2.2.1⟩, hk.1.2⟩), Kd.Q_mono (Kd.Q_bound hr) (fun k hk => ⟨⟨hk.1.1, hk.2.2.1⟩, hk.1.2⟩)⟩
end
/-- A block of a step's changes: nobody writes it. -/
def is56 (W : World) (k : Nat) : Prop := ∃ cells, W.heap[k]? = some (.cells cells 56 (0, 0))
theorem not56 {W : World} {k t : Nat} {cells : Array Value} (h : W.heap[k]? = some (.cells cells t (0, 0))) (ht : t ≠ 56) : ¬ is56 W k := by
 rintro ⟨c, hc⟩
 rw [h] at hc
 injection hc with hc
 injection hc with _ hc
 exact ht hc
theorem is56.below {W W1 : World} {k : Nat} (h : is56 W k) (hb : Below W.heap.size W W1) : is56 W1 k := by
 obtain ⟨c, hc⟩ := h
 exact ⟨c, blk_below hc hb⟩
theorem Q_not56 {α : Type} {d : Kd α} {e base : Nat} {W : World} {ok : Nat → Prop} {v : Value} {xs : List α} (h : d.Q e W base ok v xs) (he : e ≠ 56) : ∀ k, v.ownBlock = some k → ¬ is56 W k := by
 intro k hk
 obtain ⟨_, inner, ho, _⟩ := h
 obtain ⟨_, cells, hc⟩ := q_typed ho k hk
 exact not56 hc he
/-- What a call on the stack keeps: all but its blocks, and of these the steps' changes. -/
abbrev Kp (W W2 : World) (P : Nat → Prop) : Prop := Kept W W2 (fun k => P k ∧ ¬ is56 W k)
theorem Kp.kept {W W2 : World} {P : Nat → Prop} (h : Kp W W2 P) : Kept W W2 P := Kept.mono h (fun k hk => hk.1)
/-- A row in front, read as what it owns. -/
theorem Q_readsM {α : Type} {d : Kd α} {e : Nat} {w : World} {base : Nat} {ok : Nat → Prop} {A : Option Addr} {n c : Nat} {xs : List α} (h : d.Q e w base ok (.slice A n c) xs) : ReadsRow (d.M w base (fun k => ok k ∧ some k ≠ (Value.slice A n c).ownBlock)) d.sz w A xs.length xs := by
 have hC := (Kd.Q_reads' h).2.2
 obtain ⟨h0, inner, ho, hr⟩ := h
 obtain ⟨A', c', he, hl⟩ := q_slice ho
 injection he with h1 h2 h3
 subst h1; subst h2; subst h3
 refine ⟨rfl, q_max ho, fun hp => ?_⟩
 obtain ⟨ad, ha, hc⟩ := q_cells ho hp
 refine ⟨ad, ha, fun j p hj => ⟨(inner.drop (j * d.sz)).take d.sz, ?_, hr.2 j p hj, fun i u hu => ?_⟩⟩
 ·have hjl := (List.getElem?_eq_some_iff.1 hj).1
  have h1 : j * d.sz + d.sz ≤ inner.length := by rw [hr.1, ← Nat.succ_mul]; exact Nat.mul_le_mul_right _ hjl
  rw [List.length_take, List.length_drop]
  omega
 ·refine hc _ u ?_
  rw [List.getElem?_take] at hu
  split at hu
  ·rw [List.getElem?_drop] at hu
   exact hu
  ·cases hu
/-- A step of such a row: where it lies, what it owns. -/
theorem Q_at {e : Nat} {w : World} {base : Nat} {ok : Nat → Prop} {A : Option Addr} {n c : Nat} {xs : List (List S56)} (h : Kd.Q kS e w base ok (.slice A n c) xs) (i : Nat) (h1 : i < xs.length) (x : List S56) (hx : xs[i]? = some x) :
  ∃ ad Ax cx, A = some ad ∧ w.cell? (ad.add i) = some (.slice Ax x.length cx) ∧ Kd.R k56 56 w base (fun k => ok k ∧ some k ≠ (Value.slice A n c).ownBlock) (.slice Ax x.length cx) x := by
 obtain ⟨ad, cs, ha, hl, ⟨v, hv, hR⟩, hc⟩ := ReadsRow.get_ (Q_readsM h) ([] : List S56) (i : Int) (by omega) (by omega)
 rw [Int.toNat_natCast, List.getD_eq_getElem?_getD, hx, Option.getD_some] at hR
 subst hv
 obtain ⟨Ax, cx, rfl⟩ := Kd.R_slice hR
 refine ⟨ad, Ax, cx, ha, ?_, hR⟩
 have := hc 0 _ rfl
 rwa [Int.toNat_natCast, show kS.sz = 1 from rfl, Nat.mul_one, Nat.add_zero] at this
theorem sz_set (W : World) (p : Addr) (u : Value) : (W.setCell p u).heap.size = W.heap.size := by simp [World.setCell]
theorem own_old {k n m c : Nat} (h : k < n) : some k ≠ (Value.slice (some ⟨n, 0, none⟩) m c).ownBlock := by
 simp [Value.ownBlock]
 omega
/-- A row of one. -/
theorem R_one {α : Type} {d : Kd α} {e : Nat} {W : World} {base : Nat} {ok okx : Nat → Prop} {p : α} {cs : List Value} (hb : base ≤ W.heap.size) (hp : d.M W base okx p cs) (hx : ∀ k, okx k → ok k ∧ k < W.heap.size) (hok : ok W.heap.size) (b : Nat) (hbz : W.heap.size = b) : d.R e (W.alloc (.cells cs.toArray e)) base ok (.slice (some ⟨b, 0, none⟩) 1 1) [p] := by
 subst hbz
 have hl := d.K_len (d.K_of_M hp)
 refine ⟨fun k hk => ?_, cs, ⟨by rw [hl]; simp, .inr ⟨W.heap.size, 1, cs.toArray, rfl, hb, heap_alloc_new W _, Nat.le_refl _, by decide, by simp [hl], by simp [hl]; rw [← hl]; exact List.take_length⟩⟩, ⟨by simp [hl], fun j q hj => ?_⟩⟩
 ·simp [Value.ownBlock] at hk
  subst hk
  exact hok
 ·cases j with
  | zero =>
   simp at hj
   subst hj
   rw [Nat.zero_mul, List.drop_zero, ← hl, List.take_length]
   refine d.M_mono (fun k hk => ?_) (Kd.M_below hp (below_alloc (Below.refl _ _) _))
   exact ⟨(hx k hk).1, by simp [Value.ownBlock]; exact Nat.ne_of_lt (hx k hk).2⟩
  | succ j => simp at hj
theorem info35 : (Try.prog.info? 35).map (fun i => (i.zero, i.size, i.bytes)) = some (some (.slice none 0 0), 1, 24) := by kernel_rfl
theorem k56_KM {w : World} {base : Nat} {ok : Nat → Prop} {x : S56} {cs : List Value} (h : k56.K w x cs) : k56.M w base ok x cs := by
 rw [k56_open h]
 exact k56_mkM w base ok x
theorem R_zero {α : Type} (d : Kd α) (e : Nat) (W : World) (base : Nat) (ok : Nat → Prop) (hb : base ≤ W.heap.size) (hok : ok W.heap.size) : d.R e (W.alloc (.cells #[] e)) base ok (.slice (some ⟨W.heap.size, 0, none⟩) 0 0) [] := by
 refine ⟨fun k hk => ?_, [], ⟨?_, .inr ⟨W.heap.size, 0, #[], rfl, hb, heap_alloc_new W _, Nat.le_refl _, by decide, by simp, by simp⟩⟩, ⟨by simp, fun j p hj => by simp at hj⟩⟩
 ·simp [Value.ownBlock] at hk
  subst hk
  exact hok
 ·simp
theorem C_none {α : Type} {d : Kd α} {w : World} {n : Nat} {xs : List α} (h : d.C w none n xs) : xs = [] := by
 obtain ⟨h1, h2, h3⟩ := h
 rcases xs with _ | ⟨x, xs⟩
 ·rfl
 ·obtain ⟨ad, ha, _⟩ := h3 (by rw [← h1]; simp)
  cases ha
set_option maxHeartbeats 1000000 in
set_option maxRecDepth 100000 in
theorem clone_c (A : Option Addr) (c : Nat) (l : List S56) (W : World) (hr : Kd.C k56 W A l.length l) (hc : l.length ≤ c) (hl : l.length ≤ 1000000) :
  Calls Try.prog 32 #[.slice A l.length c] W fun e w' => ∃ v, e = .returned v ∧ Kd.R k56 56 w' W.heap.size (fun _ => True) v l ∧ Below W.heap.size W w' := by
 have hnil := fun (w : World) (a : Option Addr) (n c : Nat) => Lib.run_eql_slice_nil (P := Try.prog) w 35 56 a n c 0 0 Try.underlying35
 have HR := Lib.hid hr
 rcases A with _ | A
 ·obtain rfl := C_none hr
  clear hr
  go_enter Try.func32, Try.ntmps32
  go_wp2_with fail
  go_ret
  exact ⟨.slice none 0 0, rfl, Kd.R_nil _ _ _ _ _, Below.refl _ _⟩
 ·clear hr
  go_enter Try.func32, Try.ntmps32
  go_wp2_with (at_builtin; refine Kd.R_append_rows k56 (w0 := W) W.heap.size rfl (.tmp 5) (.tmp 6) 35 56 (.agg #[(.string ⟨#[]⟩), (.bool false), (.bool false), (.string ⟨#[]⟩), (.string ⟨#[]⟩)]) 56 rfl Try.underlying35 info56 rfl (by decide) (by decide) (.slice (some ⟨W.heap.size, 0, none⟩) 0 0) [] l _ _ _ (fun _ => True) (fun _ => False) rfl rfl (R_zero k56 56 W _ _ (Nat.le_refl _) trivial) ?aR (fun x cs h => k56_KM h) (fun _ h => h.elim) (fun _ _ => trivial) (below_alloc (Below.refl _ _) _) (below_alloc (Below.refl _ _) _).size ?aL ?_; (case aR => exact Kd.C_alloc HR.out _); (case aL => simp; omega); intro v1 w1 ho hb _ _; have HO := Lib.hid ho; have HB := Lib.hid hb; clear ho hb)
  go_ret
  exact ⟨_, rfl, HO.out, HB.out⟩
/-- The rows of steps: the clone's steps are the old one's. -/
theorem clone_s (base : Nat) (ok : Nat → Prop) (A : Option Addr) (c n : Nat) (l : List (List S56)) (W : World) (hbase : base ≤ W.heap.size) (hq : Kd.Q kS 35 W base ok (.slice A n c) l) (hl : l.length ≤ 1000000) :
  Calls Try.prog 34 #[.slice A n c] W fun e w' => ∃ v, e = .returned v ∧ Kd.R kS 35 w' base (fun k => (ok k ∧ some k ≠ (Value.slice A n c).ownBlock) ∨ W.heap.size ≤ k) v l ∧ Below W.heap.size W w' ∧ ∀ k, v.ownBlock = some k → W.heap.size ≤ k := by
 have hnil := fun (w : World) (a : Option Addr) (n c : Nat) => Lib.run_eql_slice_nil (P := Try.prog) w 61 35 a n c 0 0 Try.underlying61
 obtain ⟨rfl, hc, hr⟩ := Kd.Q_reads' hq
 have HQ := Lib.hid (Kd.Q_mono (ok' := fun k => ok k ∧ k < W.heap.size) (Kd.Q_bound hq) (fun k hk => ⟨hk.1, hk.2.2.1⟩))
 clear hq
 rcases A with _ | A
 ·obtain rfl := C_none hr
  clear hr
  go_enter Try.func34, Try.ntmps34
  go_wp2_with fail
  go_ret
  exact ⟨.slice none 0 0, rfl, Kd.R_nil _ _ _ _ _, Below.refl _ _, fun k hk => by simp [Value.ownBlock] at hk⟩
 ·clear hr
  go_enter Try.func34, Try.ntmps34
  go_wp2_with (at_builtin; refine Kd.R_append_rows kS (w0 := W) base rfl (.tmp 5) (.tmp 6) 61 35 (.slice none 0 0) 24 rfl Try.underlying61 info35 rfl (by decide) (by decide) (.slice (some ⟨W.heap.size, 0, none⟩) 0 0) [] l _ _ _ (fun k => (ok k ∧ some k ≠ (Value.slice (some A) l.length c).ownBlock) ∨ W.heap.size ≤ k) (fun k => (ok k ∧ k < W.heap.size) ∧ some k ≠ (Value.slice (some A) l.length c).ownBlock) rfl rfl (R_zero kS 35 W _ _ hbase (.inr (Nat.le_refl _))) (Q_readsM (Kd.Q_alloc HQ.out _)) (fun x cs h => h) (fun k hk => ⟨.inl ⟨hk.1.1, hk.2⟩, own_old hk.1.2⟩) (fun k hk => .inr (by simp at hk; omega)) ((Below.refl base W).alloc hbase _) ?aS ?aL ?_; (case aS => simp; omega); (case aL => simp; omega); intro v1 w1 ho _ hg hat; have HO := Lib.hid ho; have HG := Lib.hid hg; have HA := Lib.hid hat; clear ho hg hat)
  go_ret
  exact ⟨v1, rfl, HO.out, (below_alloc (Below.refl W.heap.size W) _).grown HG.out (by simp) (fun k hk => by simp [Value.ownBlock] at hk; omega), fun k hk => by
   rcases HA.out with h | ⟨b, h, h2⟩
   ·rw [h] at hk; simp [Value.ownBlock] at hk; omega
   ·rw [h] at hk; injection hk with hk; simp at h2; omega⟩
theorem push_end {P P' : Nat → Prop} {base g : Nat} {W0 W4 : World} {v3 v5 vr : Value} {U5 : List (List S56)} (hb : W4.heap[g]? = some (.cells #[v3, vr] 63 (0, 0))) (hu : Kd.Q kS 35 W4 base (fun k => P' k ∧ some k ≠ vr.ownBlock) v5 U5) (hB : Below base W0 W4) (hk : Kept W0 W4 P) (hg : base ≤ g) (hP : P g) (hP' : P' g) :
  St 63 35 P' base ((W4.drew.setCell ⟨g, 0, none⟩ v5).setCell ⟨g, 1, none⟩ (.slice none 0 0)) g U5 [] ∧ Below base W0 ((W4.drew.setCell ⟨g, 0, none⟩ v5).setCell ⟨g, 1, none⟩ (.slice none 0 0)) ∧ Kept W0 ((W4.drew.setCell ⟨g, 0, none⟩ v5).setCell ⟨g, 1, none⟩ (.slice none 0 0)) P := by
 have b1 := blk_drew hb
 have b2 := blk_put (cs' := #[v5, vr]) b1 0 v5 rfl
 have b3 := blk_put (cs' := #[v5, .slice none 0 0]) b2 1 (.slice none 0 0) rfl
 refine ⟨⟨hg, hP', v5, .slice none 0 0, b3, ?_, Kd.Q_nil _ _ _ _ _⟩, ((below_drew1 hB).setCell (p := ⟨g, 0, none⟩) hg _).setCell (p := ⟨g, 1, none⟩) hg _, Kept.setCell (p := ⟨g, 1, none⟩) (Kept.setCell (p := ⟨g, 0, none⟩) (Kept.drew hk) (.inl hP) _) (.inl hP) _⟩
 exact Kd.Q_mono (Kd.Q_set (Kd.Q_set (Kd.Q_drew hu) b1 (by decide) 0 v5) b2 (by decide) 1 _) (fun k hk => ⟨hk.1, by simp [Value.ownBlock]⟩)
set_option maxHeartbeats 4000000 in
set_option maxRecDepth 100000 in
theorem push_no (k : Nat) (g : Nat) (A : Option Addr) (c : Nat) (x : List S56) (W : World) (hx : Kd.C k56 W A x.length x) (hc : x.length ≤ c) (hM : stack_May.f k x = some false) :
  Calls Try.prog 14 #[.pointer (some ⟨g, 0, none⟩), .slice A x.length c] W fun e W' => e = .returned (.bool false) ∧ Below W.heap.size W W' := by
 have HX := Aside0.mk hx
 have HM := Aside0.mk hM
 have HC := Aside0.mk hc
 clear hx hM hc
 go_enter Try.func14, Try.ntmps14
 go_wp2_with fail
 refine (stack_May.calls k A c x false _ HX.out HC.out HM.out).mono ?_
 rintro e w1 ⟨rfl, hb1⟩
 go_wp2_with fail
 go_ret
 exact ⟨rfl, hb1⟩
set_option maxHeartbeats 4000000 in
set_option maxRecDepth 100000 in
theorem push_nil (A : Option Addr) (c n : Nat) (W : World) :
  Calls Try.prog 14 #[.pointer none, .slice A n c] W fun e W' => e = .returned (.bool false) ∧ W = W' := by
 go_enter Try.func14, Try.ntmps14
 go_wp2_with fail
 go_ret
 exact ⟨rfl, rfl⟩
set_option maxHeartbeats 4000000 in
set_option maxRecDepth 100000 in
theorem push_yes (k : Nat) (P : Nat → Prop) (base g : Nat) (U R : List (List S56)) (A : Option Addr) (c : Nat) (x : List S56) (W : World) (h : St 63 35 P base W g U R) (hbase : base ≤ W.heap.size) (hx : Kd.C k56 W A x.length x) (hc : x.length ≤ c) (hM : stack_May.f k x = some true) (hxl : x.length ≤ 1000) (hU : U.length ≤ 1000) :
  Calls Try.prog 14 #[.pointer (some ⟨g, 0, none⟩), .slice A x.length c] W fun e W' => e = .returned (.bool true) ∧ St 63 35 (fun k => P k ∨ W.heap.size ≤ k) base W' g ((U ++ [x]).drop (U.length + 1 - 4)) [] ∧ Below base W W' ∧ Kp W W' P := by
 have HX := Aside0.mk hx
 have HM := Aside0.mk hM
 have HC := Aside0.mk hc
 have HS := Aside0.mk h
 clear hx hM hc h
 go_enter Try.func14, Try.ntmps14
 go_wp2_with fail
 refine (stack_May.calls k A c x true _ HX.out HC.out HM.out).mono ?_
 rintro e w1 ⟨rfl, hb1⟩
 have hsz1 := Aside0.mk hb1.size
 obtain ⟨hg, hPg, vu, vr, hb, hu, hr⟩ := HS.out.below hb1
 obtain ⟨Au, cu, rfl, hcu⟩ := Kd.Q_slice hu
 have BK := Aside0.mk hb
 have HU := Aside0.mk hu
 have HR := Aside0.mk hr
 have HX1 := Aside0.mk (Kd.C_below HX.out hb1)
 have HB := Aside0.mk (hb1.mono hbase)
 have HK := Aside0.mk (Kept.of_below hb1 (fun k => P k ∧ ¬ is56 W k))
 have N56 := Aside0.mk (fun (k : Nat) (hk : (Value.slice Au U.length cu).ownBlock = some k) (h5 : is56 W k) => Q_not56 hu (by decide) k hk (h5.below hb1))
 have N5G : ¬ is56 W g := fun h5 => not56 hb (by decide) (h5.below hb1)
 have q0 := Aside0.mk (Kd.Q_lt hu)
 have q1 := Aside0.mk (Kd.Q_lt hr)
 have HCU := Aside0.mk hcu
 clear hb hu hr hb1 HS HX hcu
 go_wp2_with fail
 have BSE := Aside0.mk (Nat.le_trans hbase hsz1.out)
 rw [show w1.heap.size = w1.drew.heap.size from rfl] at hsz1 q0 q1 BSE
 replace BK := Aside0.mk (blk_drew BK.out)
 replace HU := Aside0.mk (Kd.Q_drew HU.out)
 replace HR := Aside0.mk (Kd.Q_drew HR.out)
 replace HX1 := Aside0.mk (Kd.C_below HX1.out (below_drew1 (Below.refl _ _)))
 replace HB := Aside0.mk (below_drew1 HB.out)
 replace HK := Aside0.mk (Kept.drew HK.out)
 refine start_ (n := 12) (S := fun w' => w'.cell? ⟨g, 0, none⟩ = some (.slice Au U.length cu)) (ds := [11]) #[false, false, false, false, false, false, false, false, false, false, false, false] (by kernel_rfl) rfl rfl ((blk_cell BK.out 0).trans rfl) (fun hHeld => ?_)
 generalize w1.drew = w1 at BK HU HR HX1 HB HK hsz1 q0 q1 BSE hHeld ⊢
 refine pure_ (i := 0) (N := some 12) (v := ?_) (a' := ?_) #[true, false, false, false, false, false, false, false, false, false, false, false] rfl rfl (by kernel_rfl) (fun _ _ _ h => h) (Or.inl ⟨by rfl, ?_⟩) ?_ ?_
 rotate_left
 ·intro w'
  go_simp
  with_reducible rfl
 rotate_left
 ·simp only [Act.put, List.setIfInBounds_toArray, List.set_cons_zero, List.set_cons_succ, i64_w, i32_w]
  rfl
 refine pure_ (i := 1) (N := some 13) (v := ?_) (a' := ?_) #[true, true, false, false, false, false, false, false, false, false, false, false] rfl rfl (by kernel_rfl) (fun _ _ _ h => h) (Or.inl ⟨by rfl, ?_⟩) ?_ ?_
 rotate_left
 ·intro w'
  go_simp
  with_reducible rfl
 rotate_left
 ·simp only [Act.put, List.setIfInBounds_toArray, List.set_cons_zero, List.set_cons_succ, i64_w, i32_w]
  rfl
 refine pure_ (i := 2) (N := some 14) (v := ?_) (a' := ?_) #[true, true, true, false, false, false, false, false, false, false, false, false] rfl rfl (by kernel_rfl) (fun _ _ _ h => h) (Or.inl ⟨by rfl, ?_⟩) ?_ ?_
 rotate_left
 ·intro w'
  go_simp
  with_reducible rfl
 rotate_left
 ·simp only [Act.put, List.setIfInBounds_toArray, List.set_cons_zero, List.set_cons_succ, i64_w, i32_w]
  rfl
 refine pure_ (i := 3) (N := some 15) (v := ?_) (a' := ?_) #[true, true, true, true, false, false, false, false, false, false, false, false] rfl rfl (by kernel_rfl) (fun _ _ _ h => h) (Or.inl ⟨by rfl, ?_⟩) ?_ ?_
 rotate_left
 ·intro w'
  go_simp
  with_reducible rfl
 rotate_left
 ·simp only [Act.put, List.setIfInBounds_toArray, List.set_cons_zero, List.set_cons_succ, i64_w, i32_w]
  rfl
 refine pure_ (i := 5) (N := some 17) (v := ?_) (a' := ?_) #[true, true, true, true, false, true, false, false, false, false, false, false] rfl rfl (by kernel_rfl) (fun _ _ _ h => h) (Or.inl ⟨by rfl, ?_⟩) ?_ ?_
 rotate_left
 ·intro w'
  go_simp
  with_reducible rfl
 rotate_left
 ·simp only [Act.put, List.setIfInBounds_toArray, List.set_cons_zero, List.set_cons_succ, i64_w, i32_w]
  rfl
 refine take_ (i := 4) (N := some 16) (v := ?_) (a' := ?_) #[true, true, true, true, true, true, false, false, false, false, false, false] rfl rfl (by kernel_rfl) (fun _ _ _ h => h) (Or.inl ⟨by rfl, ?_⟩) hHeld ?_ ?_
 rotate_left
 ·intro w' s0
  go_simp
  with_reducible rfl
 rotate_left
 ·simp only [Act.put, List.setIfInBounds_toArray, List.set_cons_zero, List.set_cons_succ, i64_w, i32_w]
  rfl
 refine one_ (i := 6) (N := some 18) #[true, true, true, true, true, true, true, false, false, false, false, false] rfl rfl (by kernel_rfl) (by decide) (fun K hK => ?_)
 refine goes_ Try.func32 (by kernel_rfl) rfl #[.slice A x.length c] (by rfl) rfl rfl (by simp only [List.map_toArray, List.map_cons, List.map_nil]; rfl) ?_
 with_reducible refine (clone_c A c x _ HX1.out HC.out (by omega)).mono ?_
 rintro e w2 ⟨v2, rfl, ho2, hb2⟩
 obtain ⟨A2, c2, rfl⟩ := Kd.R_slice ho2
 have BK2 := Aside0.mk (blk_below BK.out hb2)
 have HU2 := Aside0.mk (Kd.Q_below HU.out hb2)
 have HR2 := Aside0.mk (Kd.Q_below HR.out hb2)
 have HB2 := Aside0.mk (HB.out.trans (hb2.mono (Nat.le_trans hbase HB.out.size)))
 have HK2 := Aside0.mk (HK.out.below hb2)
 have HO := Aside0.mk ho2
 have s2 := Aside0.mk hb2.size
 clear ho2 hb2 BK HU HR HB HK
 refine ⟨_, rfl, ?_⟩
 refine hK.out _ _ ((blk_cell BK2.out 0).trans rfl) (fun hHeld => ?_)
 clear hK K
 refine norm_ (a' := ?_) ?_ ?_
 rotate_left
 ·show Act.put _ (some 18) _ = _
  simp only [Act.put, List.setIfInBounds_toArray, List.set_cons_zero, List.set_cons_succ, i64_w, i32_w]
  rfl
 refine one_ (i := 7) (N := some 19) #[true, true, true, true, true, true, true, true, false, false, false, false] rfl rfl (by kernel_rfl) (by decide) (fun K hK => ?_)
 refine value_ (w1 := ?_) (v := ?_) (by rfl) rfl ?_ ?_
 rotate_left 2
 ·go_simp
  constructor
  ·rfl
  ·rfl
 refine hK.out _ _ ((blk_cell (blk_alloc BK2.out _) 0).trans rfl) (fun hHeld => ?_)
 clear hK K
 refine norm_ (a' := ?_) ?_ ?_
 rotate_left
 ·show Act.put _ (some 19) _ = _
  simp only [Act.put, List.setIfInBounds_toArray, List.set_cons_zero, List.set_cons_succ, i64_w, i32_w]
  rfl
 refine one_ (i := 8) (N := some 20) #[true, true, true, true, true, true, true, true, true, false, false, false] rfl rfl (by kernel_rfl) (by decide) (fun K hK => ?_)
 refine Kd.Q_append_step kS (w0 := W) base (by rfl) (.tmp 16) (.tmp 19) 61 35 (.slice none 0 0) 24 rfl Try.underlying61 info35 rfl (by decide) (by decide) (.slice Au U.length cu) U x [.slice A2 x.length c2] (fun k => (P k ∨ W.heap.size ≤ k) ∧ some k ≠ vr.ownBlock) (fun k => w1.heap.size ≤ k ∧ k < w2.heap.size) rfl rfl ?aP ?aK ?aF ?aO ?aB ?aS ?aL ?_
 (case aP => exact ⟨_, rfl, Kd.R_mono (Kd.R_lower (Kd.R_bound HO.out) BSE.out) (fun k hk => ⟨hk.2.1, hk.2.2.1⟩)⟩)
 (case aK => intro k hk; refine ⟨⟨.inr (Nat.le_trans hsz1.out hk.1), fun e => ?_⟩, fun e => ?_⟩; (have := q1.out k e.symm; have := hk.1; omega); (have := q0.out k e.symm; have := hk.1; omega))
 (case aF => intro k hk; refine ⟨.inr (by have := hsz1.out; have := s2.out; omega), fun e => ?_⟩; have := q1.out k e.symm; have := s2.out; omega)
 (case aO => exact Kd.Q_mono HU2.out (fun k hk => ⟨.inl hk.1, hk.2⟩))
 (case aB => exact HB2.out)
 (case aS => have := s2.out; have := BSE.out; omega)
 (case aL => omega)
 intro v3 w3 ho hb hg3 hat
 obtain ⟨Ux, hux⟩ : ∃ Ux, U ++ [x] = Ux := ⟨_, rfl⟩
 rw [hux] at ho
 have NU := Aside0.mk hux
 have BK3 := Aside0.mk (blk_grown BK2.out hg3 (Kd.Q_ne HU2.out BK2.out (by decide)))
 have HR3 := Aside0.mk (Kd.Q_after (ok := fun k => P k ∨ W.heap.size ≤ k) (Kd.Q_mono HR2.out (fun k hk => ⟨.inl hk.1, hk.2⟩)) hg3 hat)
 have HU3 := Aside0.mk ho
 have HB3 := Aside0.mk hb
 have HK3 := Aside0.mk (Kept.of_grown hg3 HK2.out (fun k hk => .inl ⟨(HU2.out.1 k hk).1, N56.out k hk⟩))
 obtain ⟨A3, c3, rfl, hc3⟩ := Kd.Q_slice ho
 have HC3 := Aside0.mk hc3
 have hn : Ux.length = U.length + 1 := by rw [← hux]; simp
 obtain ⟨n, hne⟩ : ∃ n, Ux.length = n := ⟨_, rfl⟩
 rw [hne] at HU3 HR3 HC3 hn ⊢
 have HNE := Aside0.mk hne
 have HN := Aside0.mk hn
 clear hn hne hux ho hb hg3 hat hc3 BK2 HR2 HU2 HB2 HK2
 have o3 := blk_frozen BK3.out 0
 refine hK.out _ _ ((blk_cell BK3.out 0).trans rfl) (fun hHeld => ?_)
 clear hK K
 refine norm_ (a' := ?_) ?_ ?_
 rotate_left
 ·show Act.put _ (some 20) _ = _
  simp only [Act.put, List.setIfInBounds_toArray, List.set_cons_zero, List.set_cons_succ, i64_w, i32_w]
  rfl
 refine pure_ (i := 9) (N := some 21) (v := ?_) (a' := ?_) #[true, true, true, true, true, true, true, true, true, true, false, false] rfl rfl (by kernel_rfl) (fun _ _ _ h => h) (Or.inl ⟨by rfl, ?_⟩) ?_ ?_
 rotate_left
 ·intro w'
  go_simp
  with_reducible rfl
 rotate_left
 ·simp only [Act.put, List.setIfInBounds_toArray, List.set_cons_zero, List.set_cons_succ, i64_w, i32_w]
  rfl
 refine pure_ (i := 10) (N := some 22) (v := ?_) (a' := ?_) #[true, true, true, true, true, true, true, true, true, true, true, false] rfl rfl (by kernel_rfl) (fun _ _ _ h => h) (Or.inl ⟨by rfl, ?_⟩) ?_ ?_
 rotate_left
 ·intro w'
  go_simp
  with_reducible rfl
 rotate_left
 ·simp only [Act.put, List.setIfInBounds_toArray, List.set_cons_zero, List.set_cons_succ, i64_w, i32_w]
  rfl
 refine last_ (i := 11) (N := none) #[true, true, true, true, true, true, true, true, true, true, true, true] rfl rfl (by kernel_rfl) (by decide) (fun K hK => ?_)
 refine skip_ (w1 := ?_) ?_ ?_ ?_ ?_
 rotate_left
 ·rfl
 ·rfl
 ·go_simp
  rfl
 refine hK.out _ _ ?_
 clear hK K
 refine done_ (by kernel_rfl) ?_
 have BK4 := Aside0.mk (blk_put (cs' := #[.slice A3 n c3, vr]) BK3.out 0 (.slice A3 n c3) rfl)
 have HU4 := Aside0.mk (Kd.Q_set HU3.out BK3.out (by decide) 0 (.slice A3 n c3))
 have HR4 := Aside0.mk (Kd.Q_set HR3.out BK3.out (by decide) 0 (.slice A3 n c3))
 have HB4 := Aside0.mk (HB3.out.setCell (p := ⟨g, 0, none⟩) hg (.slice A3 n c3))
 have HK4 := Aside0.mk (Kept.setCell HK3.out (p := ⟨g, 0, none⟩) (.inl ⟨hPg, N5G⟩) (.slice A3 n c3))
 have q4 : (w3.setCell ⟨g, 0, none⟩ (.slice A3 n c3)).cell? ⟨g, 0, none⟩ = some (.slice A3 n c3) := (blk_cell BK4.out 0).trans rfl
 have n1 : 1 ≤ n := by have := HN.out; omega
 have n2 : n ≤ 1001 := by have := HN.out; omega
 have e1 : IntKind.i64.wrap ((n : Int) - 4) = (n : Int) - 4 := IntWalk.i64_in _ (by omega)
 have hcn := HC3.out
 have o6 := blk_frozen BK3.out 1
 have p6 := (blk_cell BK3.out 1).trans rfl
 clear BK3 HU3 HR3 HB3 HK3
 by_cases hk : 4 < n
 ·have t1 : ((0 : Int) < (n : Int) - 4) = True := eq_true (by omega)
  have t2 : ((4 : Int) < (n : Int)) = True := eq_true (by omega)
  have t3 : ((n : Int) - 4).toNat = n - 4 := by omega
  have t4 : (c3 = n - 4) = False := eq_false (by omega)
  have t5 : ((0 : Int) ≤ (n : Int) - 4) = True := eq_true (by omega)
  have t7 : ((n : Int) - 4 ≤ (n : Int)) = True := eq_true (by omega)
  have t6 : ((4 : Int) ≤ (n : Int)) = True := eq_true (by omega)
  go_wp2_with fail
  refine start_ (n := 16) (S := fun w' => w'.cell? ⟨g, 0, none⟩ = some (.slice A3 n c3)) (ds := [15]) #[false, false, false, false, false, false, false, false, false, false, false, false, false, false, false, false] (by kernel_rfl) rfl rfl ((blk_cell (blk_drew BK4.out) 0).trans rfl) (fun hHeld => ?_)
  refine pure_ (i := 0) (N := some 23) (v := ?_) (a' := ?_) #[true, false, false, false, false, false, false, false, false, false, false, false, false, false, false, false] rfl rfl (by kernel_rfl) (fun _ _ _ h => h) (Or.inl ⟨by rfl, ?_⟩) ?_ ?_
  rotate_left
  ·intro w'
   go_simp
   with_reducible rfl
  rotate_left
  ·simp only [Act.put, List.setIfInBounds_toArray, List.set_cons_zero, List.set_cons_succ, i64_w, i32_w]
   rfl
  refine pure_ (i := 1) (N := some 24) (v := ?_) (a' := ?_) #[true, true, false, false, false, false, false, false, false, false, false, false, false, false, false, false] rfl rfl (by kernel_rfl) (fun _ _ _ h => h) (Or.inl ⟨by rfl, ?_⟩) ?_ ?_
  rotate_left
  ·intro w'
   go_simp
   with_reducible rfl
  rotate_left
  ·simp only [Act.put, List.setIfInBounds_toArray, List.set_cons_zero, List.set_cons_succ, i64_w, i32_w]
   rfl
  refine pure_ (i := 2) (N := some 25) (v := ?_) (a' := ?_) #[true, true, true, false, false, false, false, false, false, false, false, false, false, false, false, false] rfl rfl (by kernel_rfl) (fun _ _ _ h => h) (Or.inl ⟨by rfl, ?_⟩) ?_ ?_
  rotate_left
  ·intro w'
   go_simp
   with_reducible rfl
  rotate_left
  ·simp only [Act.put, List.setIfInBounds_toArray, List.set_cons_zero, List.set_cons_succ, i64_w, i32_w]
   rfl
  refine pure_ (i := 3) (N := some 26) (v := ?_) (a' := ?_) #[true, true, true, true, false, false, false, false, false, false, false, false, false, false, false, false] rfl rfl (by kernel_rfl) (fun _ _ _ h => h) (Or.inl ⟨by rfl, ?_⟩) ?_ ?_
  rotate_left
  ·intro w'
   go_simp
   with_reducible rfl
  rotate_left
  ·simp only [Act.put, List.setIfInBounds_toArray, List.set_cons_zero, List.set_cons_succ, i64_w, i32_w]
   rfl
  refine pure_ (i := 5) (N := some 28) (v := ?_) (a' := ?_) #[true, true, true, true, false, true, false, false, false, false, false, false, false, false, false, false] rfl rfl (by kernel_rfl) (fun _ _ _ h => h) (Or.inl ⟨by rfl, ?_⟩) ?_ ?_
  rotate_left
  ·intro w'
   go_simp
   with_reducible rfl
  rotate_left
  ·simp only [Act.put, List.setIfInBounds_toArray, List.set_cons_zero, List.set_cons_succ, i64_w, i32_w]
   rfl
  refine pure_ (i := 6) (N := some 29) (v := ?_) (a' := ?_) #[true, true, true, true, false, true, true, false, false, false, false, false, false, false, false, false] rfl rfl (by kernel_rfl) (fun _ _ _ h => h) (Or.inl ⟨by rfl, ?_⟩) ?_ ?_
  rotate_left
  ·intro w'
   go_simp
   with_reducible rfl
  rotate_left
  ·simp only [Act.put, List.setIfInBounds_toArray, List.set_cons_zero, List.set_cons_succ, i64_w, i32_w]
   rfl
  refine pure_ (i := 7) (N := some 30) (v := ?_) (a' := ?_) #[true, true, true, true, false, true, true, true, false, false, false, false, false, false, false, false] rfl rfl (by kernel_rfl) (fun _ _ _ h => h) (Or.inl ⟨by rfl, ?_⟩) ?_ ?_
  rotate_left
  ·intro w'
   go_simp
   with_reducible rfl
  rotate_left
  ·simp only [Act.put, List.setIfInBounds_toArray, List.set_cons_zero, List.set_cons_succ, i64_w, i32_w]
   rfl
  refine take_ (i := 4) (N := some 27) (v := ?_) (a' := ?_) #[true, true, true, true, true, true, true, true, false, false, false, false, false, false, false, false] rfl rfl (by kernel_rfl) (fun _ _ _ h => h) (Or.inl ⟨by rfl, ?_⟩) hHeld ?_ ?_
  rotate_left
  ·intro w' s0
   go_simp
   with_reducible rfl
  rotate_left
  ·simp only [Act.put, List.setIfInBounds_toArray, List.set_cons_zero, List.set_cons_succ, i64_w, i32_w]
   rfl
  refine take_ (i := 8) (N := some 31) (v := ?_) (a' := ?_) #[true, true, true, true, true, true, true, true, true, false, false, false, false, false, false, false] rfl rfl (by kernel_rfl) (fun _ _ _ h => h) (Or.inl ⟨by rfl, ?_⟩) hHeld ?_ ?_
  rotate_left
  ·intro w' s0
   go_simp
   with_reducible rfl
  rotate_left
  ·simp only [Act.put, List.setIfInBounds_toArray, List.set_cons_zero, List.set_cons_succ, i64_w, i32_w]
   rfl
  refine pure_ (i := 9) (N := some 32) (v := ?_) (a' := ?_) #[true, true, true, true, true, true, true, true, true, true, false, false, false, false, false, false] rfl rfl (by kernel_rfl) (fun _ _ _ h => h) (Or.inl ⟨by rfl, ?_⟩) ?_ ?_
  rotate_left
  ·intro w'
   go_simp
   with_reducible rfl
  rotate_left
  ·simp only [Act.put, List.setIfInBounds_toArray, List.set_cons_zero, List.set_cons_succ, i64_w, i32_w]
   rfl
  refine pure_ (i := 10) (N := some 33) (v := ?_) (a' := ?_) #[true, true, true, true, true, true, true, true, true, true, true, false, false, false, false, false] rfl rfl (by kernel_rfl) (fun _ _ _ h => h) (Or.inl ⟨by rfl, ?_⟩) ?_ ?_
  rotate_left
  ·intro w'
   go_simp
   with_reducible rfl
  rotate_left
  ·simp only [Act.put, List.setIfInBounds_toArray, List.set_cons_zero, List.set_cons_succ, i64_w, i32_w]
   rfl
  refine pure_ (i := 11) (N := some 34) (v := ?_) (a' := ?_) #[true, true, true, true, true, true, true, true, true, true, true, true, false, false, false, false] rfl rfl (by kernel_rfl) (fun _ _ _ h => h) (Or.inl ⟨by rfl, ?_⟩) ?_ ?_
  rotate_left
  ·intro w'
   go_simp
   with_reducible rfl
  rotate_left
  ·simp only [Act.put, List.setIfInBounds_toArray, List.set_cons_zero, List.set_cons_succ, i64_w, i32_w]
   rfl
  refine pure_ (i := 12) (N := some 35) (v := ?_) (a' := ?_) #[true, true, true, true, true, true, true, true, true, true, true, true, true, false, false, false] rfl rfl (by kernel_rfl) (fun _ _ _ h => h) (Or.inl ⟨by rfl, ?_⟩) ?_ ?_
  rotate_left
  ·intro w'
   go_simp
   with_reducible rfl
  rotate_left
  ·simp only [Act.put, List.setIfInBounds_toArray, List.set_cons_zero, List.set_cons_succ, i64_w, i32_w]
   rfl
  refine pure_ (i := 13) (N := some 36) (v := ?_) (a' := ?_) #[true, true, true, true, true, true, true, true, true, true, true, true, true, true, false, false] rfl rfl (by kernel_rfl) (fun _ _ _ h => h) (Or.inl ⟨by rfl, ?_⟩) ?_ ?_
  rotate_left
  ·intro w'
   go_simp
   with_reducible rfl
  rotate_left
  ·simp only [Act.put, List.setIfInBounds_toArray, List.set_cons_zero, List.set_cons_succ, i64_w, i32_w]
   rfl
  refine pure_ (i := 14) (N := some 37) (v := ?_) (a' := ?_) #[true, true, true, true, true, true, true, true, true, true, true, true, true, true, true, false] rfl rfl (by kernel_rfl) (fun _ _ _ h => h) (Or.inl ⟨by rfl, ?_⟩) ?_ ?_
  rotate_left
  ·intro w'
   go_simp
   with_reducible rfl
  rotate_left
  ·simp only [Act.put, List.setIfInBounds_toArray, List.set_cons_zero, List.set_cons_succ, i64_w, i32_w]
   rfl
  refine last_ (i := 15) (N := none) #[true, true, true, true, true, true, true, true, true, true, true, true, true, true, true, true] rfl rfl (by kernel_rfl) (by decide) (fun K hK => ?_)
  refine skip_ (w1 := ?_) ?_ ?_ ?_ ?_
  rotate_left
  ·rfl
  ·rfl
  ·go_simp
   rfl
  refine hK.out _ _ ?_
  clear hK K
  refine done_ (by kernel_rfl) ?_
  go_wp2_with fail
  go_ret
  have hd := Kd.Q_drop (k := n - 4) HU4.out (by rw [HNE.out]; omega)
  rw [if_neg (by omega)] at hd
  have hd2 : Kd.Q kS 35 _ base _ (.slice (A3.map (fun x => x.add ((n - 4) * 1))) _ _) _ := hd
  simp only [Nat.mul_one] at hd2
  obtain ⟨z1, z2, z3⟩ := push_end (P := fun k => P k ∧ ¬ is56 W k) (P' := fun k => P k ∨ W.heap.size ≤ k) BK4.out hd2 HB4.out HK4.out hg ⟨hPg, N5G⟩ (.inl hPg)
  rw [NU.out, ← HN.out]
  exact ⟨rfl, z1, z2, z3⟩
 ·have t1 : ((0 : Int) < (n : Int) - 4) = False := eq_false (by omega)
  have t2 : ((4 : Int) < (n : Int)) = False := eq_false (by omega)
  have t4 : (c3 = 0) = False := eq_false (by omega)
  go_wp2_with fail
  refine start_ (n := 16) (S := fun w' => w'.cell? ⟨g, 0, none⟩ = some (.slice A3 n c3)) (ds := [15]) #[false, false, false, false, false, false, false, false, false, false, false, false, false, false, false, false] (by kernel_rfl) rfl rfl ((blk_cell (blk_drew BK4.out) 0).trans rfl) (fun hHeld => ?_)
  refine pure_ (i := 0) (N := some 23) (v := ?_) (a' := ?_) #[true, false, false, false, false, false, false, false, false, false, false, false, false, false, false, false] rfl rfl (by kernel_rfl) (fun _ _ _ h => h) (Or.inl ⟨by rfl, ?_⟩) ?_ ?_
  rotate_left
  ·intro w'
   go_simp
   with_reducible rfl
  rotate_left
  ·simp only [Act.put, List.setIfInBounds_toArray, List.set_cons_zero, List.set_cons_succ, i64_w, i32_w]
   rfl
  refine pure_ (i := 1) (N := some 24) (v := ?_) (a' := ?_) #[true, true, false, false, false, false, false, false, false, false, false, false, false, false, false, false] rfl rfl (by kernel_rfl) (fun _ _ _ h => h) (Or.inl ⟨by rfl, ?_⟩) ?_ ?_
  rotate_left
  ·intro w'
   go_simp
   with_reducible rfl
  rotate_left
  ·simp only [Act.put, List.setIfInBounds_toArray, List.set_cons_zero, List.set_cons_succ, i64_w, i32_w]
   rfl
  refine pure_ (i := 2) (N := some 25) (v := ?_) (a' := ?_) #[true, true, true, false, false, false, false, false, false, false, false, false, false, false, false, false] rfl rfl (by kernel_rfl) (fun _ _ _ h => h) (Or.inl ⟨by rfl, ?_⟩) ?_ ?_
  rotate_left
  ·intro w'
   go_simp
   with_reducible rfl
  rotate_left
  ·simp only [Act.put, List.setIfInBounds_toArray, List.set_cons_zero, List.set_cons_succ, i64_w, i32_w]
   rfl
  refine pure_ (i := 3) (N := some 26) (v := ?_) (a' := ?_) #[true, true, true, true, false, false, false, false, false, false, false, false, false, false, false, false] rfl rfl (by kernel_rfl) (fun _ _ _ h => h) (Or.inl ⟨by rfl, ?_⟩) ?_ ?_
  rotate_left
  ·intro w'
   go_simp
   with_reducible rfl
  rotate_left
  ·simp only [Act.put, List.setIfInBounds_toArray, List.set_cons_zero, List.set_cons_succ, i64_w, i32_w]
   rfl
  refine pure_ (i := 5) (N := some 28) (v := ?_) (a' := ?_) #[true, true, true, true, false, true, false, false, false, false, false, false, false, false, false, false] rfl rfl (by kernel_rfl) (fun _ _ _ h => h) (Or.inl ⟨by rfl, ?_⟩) ?_ ?_
  rotate_left
  ·intro w'
   go_simp
   with_reducible rfl
  rotate_left
  ·simp only [Act.put, List.setIfInBounds_toArray, List.set_cons_zero, List.set_cons_succ, i64_w, i32_w]
   rfl
  refine pure_ (i := 6) (N := some 29) (v := ?_) (a' := ?_) #[true, true, true, true, false, true, true, false, false, false, false, false, false, false, false, false] rfl rfl (by kernel_rfl) (fun _ _ _ h => h) (Or.inl ⟨by rfl, ?_⟩) ?_ ?_
  rotate_left
  ·intro w'
   go_simp
   with_reducible rfl
  rotate_left
  ·simp only [Act.put, List.setIfInBounds_toArray, List.set_cons_zero, List.set_cons_succ, i64_w, i32_w]
   rfl
  refine pure_ (i := 7) (N := some 30) (v := ?_) (a' := ?_) #[true, true, true, true, false, true, true, true, false, false, false, false, false, false, false, false] rfl rfl (by kernel_rfl) (fun _ _ _ h => h) (Or.inl ⟨by rfl, ?_⟩) ?_ ?_
  rotate_left
  ·intro w'
   go_simp
   with_reducible rfl
  rotate_left
  ·simp only [Act.put, List.setIfInBounds_toArray, List.set_cons_zero, List.set_cons_succ, i64_w, i32_w]
   rfl
  refine take_ (i := 4) (N := some 27) (v := ?_) (a' := ?_) #[true, true, true, true, true, true, true, true, false, false, false, false, false, false, false, false] rfl rfl (by kernel_rfl) (fun _ _ _ h => h) (Or.inl ⟨by rfl, ?_⟩) hHeld ?_ ?_
  rotate_left
  ·intro w' s0
   go_simp
   with_reducible rfl
  rotate_left
  ·simp only [Act.put, List.setIfInBounds_toArray, List.set_cons_zero, List.set_cons_succ, i64_w, i32_w]
   rfl
  refine take_ (i := 8) (N := some 31) (v := ?_) (a' := ?_) #[true, true, true, true, true, true, true, true, true, false, false, false, false, false, false, false] rfl rfl (by kernel_rfl) (fun _ _ _ h => h) (Or.inl ⟨by rfl, ?_⟩) hHeld ?_ ?_
  rotate_left
  ·intro w' s0
   go_simp
   with_reducible rfl
  rotate_left
  ·simp only [Act.put, List.setIfInBounds_toArray, List.set_cons_zero, List.set_cons_succ, i64_w, i32_w]
   rfl
  refine pure_ (i := 9) (N := some 32) (v := ?_) (a' := ?_) #[true, true, true, true, true, true, true, true, true, true, false, false, false, false, false, false] rfl rfl (by kernel_rfl) (fun _ _ _ h => h) (Or.inl ⟨by rfl, ?_⟩) ?_ ?_
  rotate_left
  ·intro w'
   go_simp
   with_reducible rfl
  rotate_left
  ·simp only [Act.put, List.setIfInBounds_toArray, List.set_cons_zero, List.set_cons_succ, i64_w, i32_w]
   rfl
  refine pure_ (i := 10) (N := some 33) (v := ?_) (a' := ?_) #[true, true, true, true, true, true, true, true, true, true, true, false, false, false, false, false] rfl rfl (by kernel_rfl) (fun _ _ _ h => h) (Or.inl ⟨by rfl, ?_⟩) ?_ ?_
  rotate_left
  ·intro w'
   go_simp
   with_reducible rfl
  rotate_left
  ·simp only [Act.put, List.setIfInBounds_toArray, List.set_cons_zero, List.set_cons_succ, i64_w, i32_w]
   rfl
  refine pure_ (i := 11) (N := some 34) (v := ?_) (a' := ?_) #[true, true, true, true, true, true, true, true, true, true, true, true, false, false, false, false] rfl rfl (by kernel_rfl) (fun _ _ _ h => h) (Or.inl ⟨by rfl, ?_⟩) ?_ ?_
  rotate_left
  ·intro w'
   go_simp
   with_reducible rfl
  rotate_left
  ·simp only [Act.put, List.setIfInBounds_toArray, List.set_cons_zero, List.set_cons_succ, i64_w, i32_w]
   rfl
  refine pure_ (i := 12) (N := some 35) (v := ?_) (a' := ?_) #[true, true, true, true, true, true, true, true, true, true, true, true, true, false, false, false] rfl rfl (by kernel_rfl) (fun _ _ _ h => h) (Or.inl ⟨by rfl, ?_⟩) ?_ ?_
  rotate_left
  ·intro w'
   go_simp
   with_reducible rfl
  rotate_left
  ·simp only [Act.put, List.setIfInBounds_toArray, List.set_cons_zero, List.set_cons_succ, i64_w, i32_w]
   rfl
  refine pure_ (i := 13) (N := some 36) (v := ?_) (a' := ?_) #[true, true, true, true, true, true, true, true, true, true, true, true, true, true, false, false] rfl rfl (by kernel_rfl) (fun _ _ _ h => h) (Or.inl ⟨by rfl, ?_⟩) ?_ ?_
  rotate_left
  ·intro w'
   go_simp
   with_reducible rfl
  rotate_left
  ·simp only [Act.put, List.setIfInBounds_toArray, List.set_cons_zero, List.set_cons_succ, i64_w, i32_w]
   rfl
  refine pure_ (i := 14) (N := some 37) (v := ?_) (a' := ?_) #[true, true, true, true, true, true, true, true, true, true, true, true, true, true, true, false] rfl rfl (by kernel_rfl) (fun _ _ _ h => h) (Or.inl ⟨by rfl, ?_⟩) ?_ ?_
  rotate_left
  ·intro w'
   go_simp
   with_reducible rfl
  rotate_left
  ·simp only [Act.put, List.setIfInBounds_toArray, List.set_cons_zero, List.set_cons_succ, i64_w, i32_w]
   rfl
  refine last_ (i := 15) (N := none) #[true, true, true, true, true, true, true, true, true, true, true, true, true, true, true, true] rfl rfl (by kernel_rfl) (by decide) (fun K hK => ?_)
  refine skip_ (w1 := ?_) ?_ ?_ ?_ ?_
  rotate_left
  ·rfl
  ·rfl
  ·go_simp
   rfl
  refine hK.out _ _ ?_
  clear hK K
  refine done_ (by kernel_rfl) ?_
  go_wp2_with fail
  go_ret
  obtain ⟨z1, z2, z3⟩ := push_end (P := fun k => P k ∧ ¬ is56 W k) (P' := fun k => P k ∨ W.heap.size ≤ k) BK4.out HU4.out HB4.out HK4.out hg ⟨hPg, N5G⟩ (.inl hPg)
  rw [NU.out, ← HN.out]
  exact ⟨rfl, by rw [show n - 4 = 0 by omega, List.drop_zero]; exact z1, z2, z3⟩
set_option maxHeartbeats 4000000 in
set_option maxRecDepth 100000 in
theorem undo_nil (W : World) :
  Calls Try.prog 16 #[.pointer none] W fun e W' => e = .returned (.tuple #[.slice none 0 0, .bool false]) ∧ W = W' := by
 go_enter Try.func16, Try.ntmps16
 go_wp2_with fail
 go_ret2
 exact ⟨rfl, rfl⟩
set_option maxHeartbeats 4000000 in
set_option maxRecDepth 100000 in
theorem undo_no (P : Nat → Prop) (base g : Nat) (R : List (List S56)) (W : World) (h : St 63 35 P base W g [] R) :
  Calls Try.prog 16 #[.pointer (some ⟨g, 0, none⟩)] W fun e W' => e = .returned (.tuple #[.slice none 0 0, .bool false]) ∧ W = W' := by
 obtain ⟨hg, hPg, vu, vr, hb, hu, hr⟩ := h
 obtain ⟨Au, cu, rfl, hcu⟩ := Kd.Q_slice hu
 have c0 : W.cell? ⟨g, 0, none⟩ = some (.slice Au 0 cu) := (blk_cell hb 0).trans rfl
 clear hb hu hr hcu
 go_enter Try.func16, Try.ntmps16
 go_wp2_with fail
 go_ret2
 exact ⟨rfl, rfl⟩
set_option maxHeartbeats 4000000 in
set_option maxRecDepth 100000 in
theorem undo_yes (P : Nat → Prop) (base g : Nat) (U R : List (List S56)) (x : List S56) (W : World) (h : St 63 35 P base W g (U ++ [x]) R) (hbase : base ≤ W.heap.size) (hU : U.length ≤ 1000) (hRl : R.length ≤ 1000) (hxl : x.length ≤ 1000) :
  Calls Try.prog 16 #[.pointer (some ⟨g, 0, none⟩)] W fun e W' => ∃ v, e = .returned (.tuple #[v, .bool true]) ∧ Kd.R k56 56 W' W.heap.size (fun _ => True) v x ∧ St 63 35 (fun k => P k ∨ (W.heap.size ≤ k ∧ some k ≠ v.ownBlock)) base W' g U (x :: R) ∧ Below base W W' ∧ Kp W W' P := by
 obtain ⟨hg, hPg, vu, vr, hb, hu, hr⟩ := h
 obtain ⟨Au, cu, rfl, hcu⟩ := Kd.Q_slice hu
 obtain ⟨Ar, cr, rfl, hcr⟩ := Kd.Q_slice hr
 obtain ⟨ad, Ax, cx, rfl, hcx, hRx⟩ := Q_at hu U.length (by simp) x (by simp)
 obtain ⟨n, hn⟩ : ∃ n, (U ++ [x]).length = n := ⟨_, rfl⟩
 have hn2 : U.length = n - 1 := by rw [← hn]; simp
 have n1 : 1 ≤ n := by rw [← hn]; simp
 have n2 : n ≤ 1001 := by rw [← hn]; simp; omega
 rw [hn] at hb hu hcu hr hRx
 rw [hn2] at hcx
 have t0 : (n == 0) = false := by simp; omega
 have t1 : ((n : Int) == 0) = false := by simp; omega
 have t2 : IntKind.i64.wrap ((n : Int) - 1) = (n : Int) - 1 := IntWalk.i64_in _ (by omega)
 have t3 : ((n : Int) - 1).toNat = n - 1 := by omega
 have HN := Aside0.mk hn
 have HN2 := Aside0.mk hn2
 have BK := Aside0.mk hb
 have HU := Aside0.mk (Kd.Q_mono (Kd.Q_bound hu) (ok' := fun k => (P k ∧ k < W.heap.size) ∧ some k ≠ (Value.slice Ar R.length cr).ownBlock) (fun k hk => ⟨⟨hk.1.1, hk.2.2.1⟩, hk.1.2⟩))
 have HR := Aside0.mk (Kd.Q_mono (Kd.Q_bound hr) (ok' := fun k => (P k ∧ k < W.heap.size) ∧ some k ≠ (Value.slice (some ad) n cu).ownBlock) (fun k hk => ⟨⟨hk.1.1, hk.2.2.1⟩, hk.1.2⟩))
 have HX := Aside0.mk (Kd.R_mono (Kd.R_bound hRx) (ok' := fun k => (P k ∧ k < W.heap.size) ∧ some k ≠ (Value.slice (some ad) n cu).ownBlock) (fun k hk => ⟨⟨hk.1.1.1, hk.2.2.1⟩, hk.1.2⟩))
 have c0 : W.cell? ⟨g, 0, none⟩ = some (.slice (some ad) n cu) := (blk_cell hb 0).trans rfl
 have c1 : W.cell? ⟨g, 1, none⟩ = some (.slice Ar R.length cr) := (blk_cell hb 1).trans rfl
 have o0 := blk_frozen hb 0
 have o1 := blk_frozen hb 1
 have gl := Aside0.mk (blk_lt hb)
 have ql := Aside0.mk (Kd.Q_lt hu)
 have B1 := Aside0.mk (blk_put (cs' := #[.slice (some ad) (n - 1) cu, .slice Ar R.length cr]) hb 0 (.slice (some ad) (n - 1) cu) rfl)
 have p1 : ∀ o, ((W.setCell ⟨g, 0, none⟩ (.slice (some ad) (n - 1) cu)).alloc o).cell? ⟨g, 1, none⟩ = some (.slice Ar R.length cr) := fun o => (blk_cell (blk_alloc B1.out o) 1).trans rfl
 have N5G : ¬ is56 W g := not56 hb (by decide)
 clear hb hu hr hRx hn hn2
 go_enter Try.func16, Try.ntmps16
 go_wp2_with (first | (at_builtin; go_loud ((refine Kd.R_append_rows kS (w0 := W) base rfl (.tmp 40) (.tmp 44) 61 35 (.slice none 0 0) 24 rfl Try.underlying61 info35 rfl (by decide) (by decide) (.slice (some ⟨W.heap.size, 0, none⟩) 1 1) [x] R Ar R.length cr (fun k => (P k ∨ W.heap.size ≤ k) ∧ some k ≠ (Value.slice (some ad) n cu).ownBlock) (fun k => (P k ∧ k < W.heap.size) ∧ some k ≠ (Value.slice (some ad) n cu).ownBlock) rfl rfl ?aO (Q_readsM (Kd.Q_alloc (Kd.Q_set HR.out BK.out (by decide) 0 _) _)) (fun x cs h => kS.M_mono (fun k hk => hk.1) h) (fun k hk => ⟨⟨.inl hk.1.1, hk.2⟩, own_old hk.1.2⟩) ?aF ?aB ?aS ?aL ?_; (case aO => exact R_one (d := kS) (p := x) (cs := [.slice Ax x.length cx]) (okx := fun k => (P k ∧ k < W.heap.size) ∧ some k ≠ (Value.slice (some ad) n cu).ownBlock) (W := W.setCell ⟨g, 0, none⟩ (.slice (some ad) (n - 1) cu)) (by rw [sz_set]; exact hbase) ⟨_, rfl, Kd.R_set HX.out BK.out (by decide) 0 _⟩ (fun k hk => ⟨⟨.inl hk.1.1, hk.2⟩, by rw [sz_set]; exact hk.1.2⟩) ⟨.inr (by rw [sz_set]; omega), by rw [sz_set]; intro e; have := ql.out _ e.symm; omega⟩ _ (sz_set _ _ _)); (case aF => intro k hk; rw [World.size_alloc, sz_set] at hk; exact ⟨.inr (by omega), fun e => by have := ql.out _ e.symm; omega⟩); (case aB => exact ((Below.refl base W).setCell (p := ⟨g, 0, none⟩) hg _).alloc (by rw [sz_set]; exact hbase) _); (case aS => rw [World.size_alloc, sz_set]; omega); (case aL => simp; omega); intro v3 w3 ho hb3 hg3 hat; obtain ⟨A3, c3, rfl⟩ := Kd.R_slice ho; obtain ⟨n3, hn3⟩ : ∃ n3, ([x] ++ R).length = n3 := ⟨_, rfl⟩; rw [hn3] at ho hat ⊢; have HO := Aside0.mk ho; have HB3 := Aside0.mk hb3; have HG3 := Aside0.mk hg3; have HAT := Aside0.mk hat; have B3 := Aside0.mk (blk_grown (blk_alloc B1.out _) hg3 (own_old gl.out)); have o3 := blk_frozen B3.out 1; have p3 : w3.cell? ⟨g, 1, none⟩ = some (.slice Ar R.length cr) := (blk_cell B3.out 1).trans rfl; clear ho hb3 hg3 hat))))
 have B5 := Aside0.mk (blk_put (cs' := #[.slice (some ad) (n - 1) cu, .slice A3 n3 c3]) B3.out 1 (.slice A3 n3 c3) rfl)
 have HX5 := Aside0.mk (Kd.R_set (Kd.R_grown (Kd.R_alloc (Kd.R_set HX.out BK.out (by decide) 0 (.slice (some ad) (n - 1) cu)) _) HG3.out (fun k hk => own_old hk.1.2)) B3.out (by decide) 1 (.slice A3 n3 c3))
 have HU5 := Aside0.mk (Kd.Q_take (m := n - 1) (Kd.Q_set (Kd.Q_grown (Kd.Q_alloc (Kd.Q_set HU.out BK.out (by decide) 0 (.slice (some ad) (n - 1) cu)) _) HG3.out (fun k hk => own_old hk.1.2)) B3.out (by decide) 1 (.slice A3 n3 c3)) (by rw [HN.out]; omega))
 have HR5 := Aside0.mk (Kd.Q_set (Kd.Q_of_R HO.out) B3.out (by decide) 1 (.slice A3 n3 c3))
 have HB5 := Aside0.mk (HB3.out.setCell (p := ⟨g, 1, none⟩) hg (.slice A3 n3 c3))
 have HK5 := Aside0.mk (Kept.setCell (p := ⟨g, 1, none⟩) (Kept.of_grown HG3.out (Kept.alloc (Kept.setCell (Kept.refl W (fun k => P k ∧ ¬ is56 W k)) (p := ⟨g, 0, none⟩) (.inl ⟨hPg, N5G⟩) (.slice (some ad) (n - 1) cu)) _) (fun k hk => by simp [Value.ownBlock] at hk; exact .inr (by omega))) (.inl ⟨hPg, N5G⟩) (.slice A3 n3 c3))
 have HF5 := Aside0.mk (show ∀ k, (Value.slice A3 n3 c3).ownBlock = some k → W.heap.size ≤ k from by
  intro k hk
  rcases HAT.out with h | ⟨b, h, h2⟩
  ·rw [h] at hk; simp [Value.ownBlock] at hk; omega
  ·rw [h] at hk; injection hk with hk; rw [World.size_alloc, sz_set] at h2; omega)
 have s3 : W.heap.size ≤ w3.heap.size := by have := HG3.out.size; rw [World.size_alloc, sz_set] at this; omega
 with_reducible refine (clone_c Ax cx x _ (Kd.R_reads' HX5.out).2.2 (Kd.R_reads' HX5.out).2.1 (by omega)).mono ?_
 rintro e w6 ⟨v6, rfl, ho6, hb6⟩
 obtain ⟨A6, c6, rfl⟩ := Kd.R_slice ho6
 have HO6 := Aside0.mk ho6
 have HB6 := Aside0.mk hb6
 clear ho6 hb6
 go_wp2_with fail
 go_ret2
 have hS : St 63 35 (fun k => P k ∨ W.heap.size ≤ k) base _ g U (x :: R) := ⟨hg, .inl hPg, _, _, B5.out,
  by
   have h := HU5.out
   rw [show (U ++ [x]).take (n - 1) = U by rw [← HN2.out]; simp] at h
   exact Kd.Q_mono h (fun k hk => ⟨.inl hk.1.1, fun e => by have := HF5.out k e.symm; have := hk.1.2; omega⟩),
  Kd.Q_mono HR5.out (fun k hk => hk)⟩
 exact ⟨_, rfl, Kd.R_lower HO6.out (by rw [sz_set]; exact s3), St.mono (hS.bound.below HB6.out) (fun k hk => hk.1.elim .inl (fun h => .inr ⟨h, fun e => by have := ((Kd.R_bound HO6.out).1 k e.symm).2.1; have := hk.2; omega⟩)), HB5.out.trans (HB6.out.mono (by rw [sz_set]; omega)), HK5.out.below HB6.out⟩
set_option maxHeartbeats 4000000 in
set_option maxRecDepth 100000 in
theorem redo_nil (W : World) :
  Calls Try.prog 19 #[.pointer none] W fun e W' => e = .returned (.tuple #[.slice none 0 0, .bool false]) ∧ W = W' := by
 go_enter Try.func19, Try.ntmps19
 go_wp2_with fail
 go_ret2
 exact ⟨rfl, rfl⟩
set_option maxHeartbeats 4000000 in
set_option maxRecDepth 100000 in
theorem redo_no (P : Nat → Prop) (base g : Nat) (U : List (List S56)) (W : World) (h : St 63 35 P base W g U []) :
  Calls Try.prog 19 #[.pointer (some ⟨g, 0, none⟩)] W fun e W' => e = .returned (.tuple #[.slice none 0 0, .bool false]) ∧ W = W' := by
 obtain ⟨hg, hPg, vu, vr, hb, hu, hr⟩ := h
 obtain ⟨Au, cu, rfl, hcu⟩ := Kd.Q_slice hr
 have c0 : W.cell? ⟨g, 1, none⟩ = some (.slice Au 0 cu) := (blk_cell hb 1).trans rfl
 clear hb hu hr hcu
 go_enter Try.func19, Try.ntmps19
 go_wp2_with fail
 go_ret2
 exact ⟨rfl, rfl⟩
theorem addr_zero (ad : Addr) : ad.add 0 = ad := by
 unfold Addr.add
 rcases ad with ⟨b, o, _ | p⟩ <;> rfl
theorem own_cut {ad : Addr} {cr m a b : Nat} {Av : Option Addr} (h : (if cr = 1 then some ad else some (ad.add 1)) = Av) : (Value.slice Av a b).ownBlock = (Value.slice (some ad) m cr).ownBlock := by
 subst h
 split
 ·rfl
 ·simp [Value.ownBlock]
  unfold Addr.add
  split <;> rfl
set_option maxHeartbeats 4000000 in
set_option maxRecDepth 100000 in
theorem redo_yes (P : Nat → Prop) (base g : Nat) (U R : List (List S56)) (x : List S56) (W : World) (h : St 63 35 P base W g U (x :: R)) (hbase : base ≤ W.heap.size) (hU : U.length ≤ 1000) (hRl : R.length ≤ 1000) (hxl : x.length ≤ 1000) :
  Calls Try.prog 19 #[.pointer (some ⟨g, 0, none⟩)] W fun e W' => ∃ v, e = .returned (.tuple #[v, .bool true]) ∧ Kd.R k56 56 W' W.heap.size (fun _ => True) v x ∧ St 63 35 (fun k => P k ∨ (W.heap.size ≤ k ∧ some k ≠ v.ownBlock)) base W' g (U ++ [x]) R ∧ Below base W W' ∧ Kp W W' P := by
 obtain ⟨hg, hPg, vu, vr, hb, hu, hr⟩ := h
 obtain ⟨Au, cu, rfl, hcu⟩ := Kd.Q_slice hu
 obtain ⟨Ar, cr, rfl, hcr⟩ := Kd.Q_slice hr
 obtain ⟨ad, Ax, cx, rfl, hcx, hRx⟩ := Q_at hr 0 (by simp) x (by simp)
 have hcx0 : W.cell? ad = some (.slice Ax x.length cx) := by rwa [addr_zero] at hcx
 clear hcx
 obtain ⟨n, hn⟩ : ∃ n, (x :: R).length = n := ⟨_, rfl⟩
 have hn2 : R.length = n - 1 := by rw [← hn]; simp
 have n1 : 1 ≤ n := by rw [← hn]; simp
 have n2 : n ≤ 1001 := by rw [← hn]; simp; omega
 rw [hn] at hb hu hcr hr hRx
 have t0 : (n == 0) = false := by simp; omega
 have t1 : ((n : Int) == 0) = false := by simp; omega
 have t2 : (0 < n) = True := eq_true (by omega)
 have t3 : (1 ≤ n) = True := eq_true (by omega)
 by_cases hcr1 : cr = 1
 ·have HAV := Aside0.mk (show (if cr = 1 then some ad else some (ad.add 1)) = some ad from if_pos hcr1)
  have hq := eq_true hcr1
  clear hcr1
  have HN := Aside0.mk hn
  have HN2 := Aside0.mk hn2
  have BK := Aside0.mk hb
  have HU := Aside0.mk (Kd.Q_mono (Kd.Q_bound hu) (ok' := fun k => (P k ∧ k < W.heap.size) ∧ some k ≠ (Value.slice (some ad) n cr).ownBlock) (fun k hk => ⟨⟨hk.1.1, hk.2.2.1⟩, hk.1.2⟩))
  have HR := Aside0.mk (Kd.Q_mono (Kd.Q_bound hr) (ok' := fun k => (P k ∧ k < W.heap.size) ∧ some k ≠ (Value.slice Au U.length cu).ownBlock) (fun k hk => ⟨⟨hk.1.1, hk.2.2.1⟩, hk.1.2⟩))
  have HX := Aside0.mk (Kd.R_mono (Kd.R_bound hRx) (ok' := fun k => (P k ∧ k < W.heap.size) ∧ some k ≠ (Value.slice (some ad) n cr).ownBlock) (fun k hk => ⟨⟨hk.1.1.1, hk.2.2.1⟩, hk.1.2⟩))
  have c0 : W.cell? ⟨g, 0, none⟩ = some (.slice Au U.length cu) := (blk_cell hb 0).trans rfl
  have c1 : W.cell? ⟨g, 1, none⟩ = some (.slice (some ad) n cr) := (blk_cell hb 1).trans rfl
  have o0 := blk_frozen hb 0
  have o1 := blk_frozen hb 1
  have gl := Aside0.mk (blk_lt hb)
  have ql := Aside0.mk (Kd.Q_lt hr)
  have B1 := Aside0.mk (blk_put (cs' := #[.slice Au U.length cu, .slice (some ad) (n - 1) (cr - 1)]) hb 1 (.slice (some ad) (n - 1) (cr - 1)) rfl)
  have N5G : ¬ is56 W g := not56 hb (by decide)
  clear hb hu hr hRx hn hn2
  go_enter Try.func19, Try.ntmps19
  go_wp2_with fail
  have s1 := sz_set W ⟨g, 1, none⟩ (.slice (some ad) (n - 1) (cr - 1))
  refine (clone_s base (fun k => (P k ∧ k < W.heap.size) ∧ some k ≠ (Value.slice (some ad) n cr).ownBlock) Au cu U.length U _ (by rw [s1]; exact hbase) (Kd.Q_set HU.out BK.out (by decide) 1 _) (by omega)).mono ?_
  rintro e w2 ⟨v2, rfl, ho2, hb2, hf2⟩
  obtain ⟨A2, c2, rfl⟩ := Kd.R_slice ho2
  have HO2 := Aside0.mk ho2
  have HB2 := Aside0.mk hb2
  have HF2 := Aside0.mk hf2
  have B2 := Aside0.mk (blk_below B1.out hb2)
  have HX2 := Aside0.mk (Kd.R_below (Kd.R_set HX.out BK.out (by decide) 1 (.slice (some ad) (n - 1) (cr - 1))) hb2)
  clear ho2 hb2 hf2
  go_wp2_with (at_builtin; go_loud ((refine Kd.R_append kS (w0 := W) base rfl (.tmp 34) (.tmp 36) 61 35 (.slice none 0 0) 24 rfl Try.underlying61 info35 rfl (by decide) (by decide) (.slice A2 U.length c2) U x [.slice Ax x.length cx] (fun k => (P k ∨ W.heap.size ≤ k) ∧ some k ≠ (Value.slice (some ad) n cr).ownBlock) (fun k => (P k ∧ k < W.heap.size) ∧ some k ≠ (Value.slice (some ad) n cr).ownBlock) rfl rfl ⟨_, rfl, HX2.out⟩ ?aK ?aF ?aO ?aB ?aS ?aL ?_; (case aK => intro k hk; refine ⟨⟨.inl hk.1.1, hk.2⟩, fun e => ?_⟩; have := HF2.out k e.symm; rw [s1] at this; have := hk.1.2; omega); (case aF => intro k hk; have := HB2.out.size; rw [s1] at this; exact ⟨.inr (by omega), fun e => by have := ql.out _ e.symm; omega⟩); (case aO => exact Kd.R_mono HO2.out (fun k hk => by rcases hk with hk | hk; exact ⟨.inl hk.1.1.1, hk.1.2⟩; rw [s1] at hk; exact ⟨.inr hk, fun e => by have := ql.out _ e.symm; omega⟩)); (case aB => exact ((Below.refl base W).setCell (p := ⟨g, 1, none⟩) hg _).trans (HB2.out.mono (by rw [s1]; exact hbase))); (case aS => have := HB2.out.size; rw [s1] at this; omega); (case aL => omega); intro v3 w3 ho hb3 hg3 hat; obtain ⟨A3, c3, rfl⟩ := Kd.R_slice ho; obtain ⟨n3, hn3⟩ : ∃ n3, (U ++ [x]).length = n3 := ⟨_, rfl⟩; rw [hn3] at ho hat ⊢; have HO := Aside0.mk ho; have HB3 := Aside0.mk hb3; have HG3 := Aside0.mk hg3; have HAT := Aside0.mk hat; have B3 := Aside0.mk (blk_grown B2.out hg3 (fun e => by have := HF2.out g e.symm; rw [s1] at this; have := gl.out; omega)); have o3 := blk_frozen B3.out 0; have p3 : w3.cell? ⟨g, 0, none⟩ = some (.slice Au U.length cu) := (blk_cell B3.out 0).trans rfl; clear ho hb3 hg3 hat)))
  have NO : ∀ k, k < W.heap.size → some k ≠ (Value.slice A2 U.length c2).ownBlock := fun k hk e => by have := HF2.out k e.symm; rw [s1] at this; omega
  have B5 := Aside0.mk (blk_put (cs' := #[.slice A3 n3 c3, .slice (some ad) (n - 1) (cr - 1)]) B3.out 0 (.slice A3 n3 c3) rfl)
  have HX5 := Aside0.mk (Kd.R_set (Kd.R_grown HX2.out HG3.out (fun k hk => NO k hk.1.2)) B3.out (by decide) 0 (.slice A3 n3 c3))
  have hd := Kd.Q_drop (k := 1) (Kd.Q_set (Kd.Q_grown (Kd.Q_below (Kd.Q_set HR.out BK.out (by decide) 1 (.slice (some ad) (n - 1) (cr - 1))) HB2.out) HG3.out (fun k hk => NO k hk.1.2)) B3.out (by decide) 0 (.slice A3 n3 c3)) (by rw [HN.out]; exact n1)
  have hd2 : Kd.Q kS 35 _ base _ (.slice (if cr = 1 then some ad else some (ad.add 1)) (n - 1) (cr - 1)) ((x :: R).drop 1) := hd
  rw [HAV.out] at hd2
  have HR5 := Aside0.mk hd2
  have HU5 := Aside0.mk (Kd.Q_set (Kd.Q_of_R HO.out) B3.out (by decide) 0 (.slice A3 n3 c3))
  have HB5 := Aside0.mk (HB3.out.setCell (p := ⟨g, 0, none⟩) hg (.slice A3 n3 c3))
  have HK5 := Aside0.mk (Kept.setCell (p := ⟨g, 0, none⟩) (Kept.of_grown HG3.out (Kept.below (Kept.setCell (Kept.refl W (fun k => P k ∧ ¬ is56 W k)) (p := ⟨g, 1, none⟩) (.inl ⟨hPg, N5G⟩) (.slice (some ad) (n - 1) (cr - 1))) HB2.out) (fun k hk => by have := HF2.out k hk; rw [s1] at this; exact .inr this)) (.inl ⟨hPg, N5G⟩) (.slice A3 n3 c3))
  have s3 : W.heap.size ≤ w3.heap.size := by have h1 := HG3.out.size; have h2 := HB2.out.size; rw [s1] at h2; omega
  have HF5 := Aside0.mk (show ∀ k, (Value.slice A3 n3 c3).ownBlock = some k → W.heap.size ≤ k from by
   intro k hk
   rcases HAT.out with h | ⟨b, h, h2⟩
   ·rw [h] at hk; have := HF2.out k hk; rw [s1] at this; exact this
   ·rw [h] at hk; injection hk with hk; have h3 := HB2.out.size; rw [s1] at h3; omega)
  clear hd hd2
  with_reducible refine (clone_c Ax cx x _ (Kd.R_reads' HX5.out).2.2 (Kd.R_reads' HX5.out).2.1 (by omega)).mono ?_
  rintro e w6 ⟨v6, rfl, ho6, hb6⟩
  obtain ⟨A6, c6, rfl⟩ := Kd.R_slice ho6
  have HO6 := Aside0.mk ho6
  have HB6 := Aside0.mk hb6
  clear ho6 hb6
  go_wp2_with fail
  go_ret2
  have hS : St 63 35 (fun k => P k ∨ W.heap.size ≤ k) base _ g (U ++ [x]) R := ⟨hg, .inl hPg, _, _, B5.out,
   Kd.Q_mono HU5.out (fun k hk => ⟨hk.1, by rw [own_cut (m := n) HAV.out]; exact hk.2⟩),
   Kd.Q_mono HR5.out (fun k hk => ⟨.inl hk.1.1, fun e => by have := HF5.out k e.symm; have := hk.1.2; omega⟩)⟩
  exact ⟨_, rfl, Kd.R_lower HO6.out (by rw [sz_set]; exact s3), St.mono (hS.bound.below HB6.out) (fun k hk => hk.1.elim .inl (fun h => .inr ⟨h, fun e => by have := ((Kd.R_bound HO6.out).1 k e.symm).2.1; have := hk.2; omega⟩)), HB5.out.trans (HB6.out.mono (by rw [sz_set]; omega)), HK5.out.below HB6.out⟩
 ·have HAV := Aside0.mk (show (if cr = 1 then some ad else some (ad.add 1)) = some ⟨ad.block, ad.off + 1, none⟩ from if_neg hcr1)
  have hq := eq_false hcr1
  clear hcr1
  have HN := Aside0.mk hn
  have HN2 := Aside0.mk hn2
  have BK := Aside0.mk hb
  have HU := Aside0.mk (Kd.Q_mono (Kd.Q_bound hu) (ok' := fun k => (P k ∧ k < W.heap.size) ∧ some k ≠ (Value.slice (some ad) n cr).ownBlock) (fun k hk => ⟨⟨hk.1.1, hk.2.2.1⟩, hk.1.2⟩))
  have HR := Aside0.mk (Kd.Q_mono (Kd.Q_bound hr) (ok' := fun k => (P k ∧ k < W.heap.size) ∧ some k ≠ (Value.slice Au U.length cu).ownBlock) (fun k hk => ⟨⟨hk.1.1, hk.2.2.1⟩, hk.1.2⟩))
  have HX := Aside0.mk (Kd.R_mono (Kd.R_bound hRx) (ok' := fun k => (P k ∧ k < W.heap.size) ∧ some k ≠ (Value.slice (some ad) n cr).ownBlock) (fun k hk => ⟨⟨hk.1.1.1, hk.2.2.1⟩, hk.1.2⟩))
  have c0 : W.cell? ⟨g, 0, none⟩ = some (.slice Au U.length cu) := (blk_cell hb 0).trans rfl
  have c1 : W.cell? ⟨g, 1, none⟩ = some (.slice (some ad) n cr) := (blk_cell hb 1).trans rfl
  have o0 := blk_frozen hb 0
  have o1 := blk_frozen hb 1
  have gl := Aside0.mk (blk_lt hb)
  have ql := Aside0.mk (Kd.Q_lt hr)
  have B1 := Aside0.mk (blk_put (cs' := #[.slice Au U.length cu, .slice (some ⟨ad.block, ad.off + 1, none⟩) (n - 1) (cr - 1)]) hb 1 (.slice (some ⟨ad.block, ad.off + 1, none⟩) (n - 1) (cr - 1)) rfl)
  have N5G : ¬ is56 W g := not56 hb (by decide)
  clear hb hu hr hRx hn hn2
  go_enter Try.func19, Try.ntmps19
  go_wp2_with fail
  have s1 := sz_set W ⟨g, 1, none⟩ (.slice (some ⟨ad.block, ad.off + 1, none⟩) (n - 1) (cr - 1))
  refine (clone_s base (fun k => (P k ∧ k < W.heap.size) ∧ some k ≠ (Value.slice (some ad) n cr).ownBlock) Au cu U.length U _ (by rw [s1]; exact hbase) (Kd.Q_set HU.out BK.out (by decide) 1 _) (by omega)).mono ?_
  rintro e w2 ⟨v2, rfl, ho2, hb2, hf2⟩
  obtain ⟨A2, c2, rfl⟩ := Kd.R_slice ho2
  have HO2 := Aside0.mk ho2
  have HB2 := Aside0.mk hb2
  have HF2 := Aside0.mk hf2
  have B2 := Aside0.mk (blk_below B1.out hb2)
  have HX2 := Aside0.mk (Kd.R_below (Kd.R_set HX.out BK.out (by decide) 1 (.slice (some ⟨ad.block, ad.off + 1, none⟩) (n - 1) (cr - 1))) hb2)
  clear ho2 hb2 hf2
  go_wp2_with (at_builtin; go_loud ((refine Kd.R_append kS (w0 := W) base rfl (.tmp 34) (.tmp 36) 61 35 (.slice none 0 0) 24 rfl Try.underlying61 info35 rfl (by decide) (by decide) (.slice A2 U.length c2) U x [.slice Ax x.length cx] (fun k => (P k ∨ W.heap.size ≤ k) ∧ some k ≠ (Value.slice (some ad) n cr).ownBlock) (fun k => (P k ∧ k < W.heap.size) ∧ some k ≠ (Value.slice (some ad) n cr).ownBlock) rfl rfl ⟨_, rfl, HX2.out⟩ ?aK ?aF ?aO ?aB ?aS ?aL ?_; (case aK => intro k hk; refine ⟨⟨.inl hk.1.1, hk.2⟩, fun e => ?_⟩; have := HF2.out k e.symm; rw [s1] at this; have := hk.1.2; omega); (case aF => intro k hk; have := HB2.out.size; rw [s1] at this; exact ⟨.inr (by omega), fun e => by have := ql.out _ e.symm; omega⟩); (case aO => exact Kd.R_mono HO2.out (fun k hk => by rcases hk with hk | hk; exact ⟨.inl hk.1.1.1, hk.1.2⟩; rw [s1] at hk; exact ⟨.inr hk, fun e => by have := ql.out _ e.symm; omega⟩)); (case aB => exact ((Below.refl base W).setCell (p := ⟨g, 1, none⟩) hg _).trans (HB2.out.mono (by rw [s1]; exact hbase))); (case aS => have := HB2.out.size; rw [s1] at this; omega); (case aL => omega); intro v3 w3 ho hb3 hg3 hat; obtain ⟨A3, c3, rfl⟩ := Kd.R_slice ho; obtain ⟨n3, hn3⟩ : ∃ n3, (U ++ [x]).length = n3 := ⟨_, rfl⟩; rw [hn3] at ho hat ⊢; have HO := Aside0.mk ho; have HB3 := Aside0.mk hb3; have HG3 := Aside0.mk hg3; have HAT := Aside0.mk hat; have B3 := Aside0.mk (blk_grown B2.out hg3 (fun e => by have := HF2.out g e.symm; rw [s1] at this; have := gl.out; omega)); have o3 := blk_frozen B3.out 0; have p3 : w3.cell? ⟨g, 0, none⟩ = some (.slice Au U.length cu) := (blk_cell B3.out 0).trans rfl; clear ho hb3 hg3 hat)))
  have NO : ∀ k, k < W.heap.size → some k ≠ (Value.slice A2 U.length c2).ownBlock := fun k hk e => by have := HF2.out k e.symm; rw [s1] at this; omega
  have B5 := Aside0.mk (blk_put (cs' := #[.slice A3 n3 c3, .slice (some ⟨ad.block, ad.off + 1, none⟩) (n - 1) (cr - 1)]) B3.out 0 (.slice A3 n3 c3) rfl)
  have HX5 := Aside0.mk (Kd.R_set (Kd.R_grown HX2.out HG3.out (fun k hk => NO k hk.1.2)) B3.out (by decide) 0 (.slice A3 n3 c3))
  have hd := Kd.Q_drop (k := 1) (Kd.Q_set (Kd.Q_grown (Kd.Q_below (Kd.Q_set HR.out BK.out (by decide) 1 (.slice (some ⟨ad.block, ad.off + 1, none⟩) (n - 1) (cr - 1))) HB2.out) HG3.out (fun k hk => NO k hk.1.2)) B3.out (by decide) 0 (.slice A3 n3 c3)) (by rw [HN.out]; exact n1)
  have hd2 : Kd.Q kS 35 _ base _ (.slice (if cr = 1 then some ad else some (ad.add 1)) (n - 1) (cr - 1)) ((x :: R).drop 1) := hd
  rw [HAV.out] at hd2
  have HR5 := Aside0.mk hd2
  have HU5 := Aside0.mk (Kd.Q_set (Kd.Q_of_R HO.out) B3.out (by decide) 0 (.slice A3 n3 c3))
  have HB5 := Aside0.mk (HB3.out.setCell (p := ⟨g, 0, none⟩) hg (.slice A3 n3 c3))
  have HK5 := Aside0.mk (Kept.setCell (p := ⟨g, 0, none⟩) (Kept.of_grown HG3.out (Kept.below (Kept.setCell (Kept.refl W (fun k => P k ∧ ¬ is56 W k)) (p := ⟨g, 1, none⟩) (.inl ⟨hPg, N5G⟩) (.slice (some ⟨ad.block, ad.off + 1, none⟩) (n - 1) (cr - 1))) HB2.out) (fun k hk => by have := HF2.out k hk; rw [s1] at this; exact .inr this)) (.inl ⟨hPg, N5G⟩) (.slice A3 n3 c3))
  have s3 : W.heap.size ≤ w3.heap.size := by have h1 := HG3.out.size; have h2 := HB2.out.size; rw [s1] at h2; omega
  have HF5 := Aside0.mk (show ∀ k, (Value.slice A3 n3 c3).ownBlock = some k → W.heap.size ≤ k from by
   intro k hk
   rcases HAT.out with h | ⟨b, h, h2⟩
   ·rw [h] at hk; have := HF2.out k hk; rw [s1] at this; exact this
   ·rw [h] at hk; injection hk with hk; have h3 := HB2.out.size; rw [s1] at h3; omega)
  clear hd hd2
  with_reducible refine (clone_c Ax cx x _ (Kd.R_reads' HX5.out).2.2 (Kd.R_reads' HX5.out).2.1 (by omega)).mono ?_
  rintro e w6 ⟨v6, rfl, ho6, hb6⟩
  obtain ⟨A6, c6, rfl⟩ := Kd.R_slice ho6
  have HO6 := Aside0.mk ho6
  have HB6 := Aside0.mk hb6
  clear ho6 hb6
  go_wp2_with fail
  go_ret2
  have hS : St 63 35 (fun k => P k ∨ W.heap.size ≤ k) base _ g (U ++ [x]) R := ⟨hg, .inl hPg, _, _, B5.out,
   Kd.Q_mono HU5.out (fun k hk => ⟨hk.1, by rw [own_cut (m := n) HAV.out]; exact hk.2⟩),
   Kd.Q_mono HR5.out (fun k hk => ⟨.inl hk.1.1, fun e => by have := HF5.out k e.symm; have := hk.1.2; omega⟩)⟩
  exact ⟨_, rfl, Kd.R_lower HO6.out (by rw [sz_set]; exact s3), St.mono (hS.bound.below HB6.out) (fun k hk => hk.1.elim .inl (fun h => .inr ⟨h, fun e => by have := ((Kd.R_bound HO6.out).1 k e.symm).2.1; have := hk.2; omega⟩)), HB5.out.trans (HB6.out.mono (by rw [sz_set]; omega)), HK5.out.below HB6.out⟩
set_option maxHeartbeats 4000000 in
set_option maxRecDepth 100000 in
theorem len_nil (W : World) :
  Calls Try.prog 23 #[.pointer none] W fun e W' => e = .returned (.tuple #[.int .i64 0, .int .i64 0]) ∧ W = W' := by
 go_enter Try.func23, Try.ntmps23
 go_wp2_with fail
 go_ret2
 exact ⟨rfl, rfl⟩
set_option maxHeartbeats 4000000 in
set_option maxRecDepth 100000 in
theorem len_yes (P : Nat → Prop) (base g : Nat) (U R : List (List S56)) (W : World) (h : St 63 35 P base W g U R) :
  Calls Try.prog 23 #[.pointer (some ⟨g, 0, none⟩)] W fun e W' => e = .returned (.tuple #[.int .i64 U.length, .int .i64 R.length]) ∧ ∃ n, W' = W.drewN n := by
 obtain ⟨hg, hPg, vu, vr, hb, hu, hr⟩ := h
 obtain ⟨Au, cu, rfl, hcu⟩ := Kd.Q_slice hu
 obtain ⟨Ar, cr, rfl, hcr⟩ := Kd.Q_slice hr
 have c0 : W.cell? ⟨g, 0, none⟩ = some (.slice Au U.length cu) := (blk_cell hb 0).trans rfl
 have c1 : W.cell? ⟨g, 1, none⟩ = some (.slice Ar R.length cr) := (blk_cell hb 1).trans rfl
 clear hb hu hr hcu hcr
 go_enter Try.func23, Try.ntmps23
 go_wp2_with fail
 (repeat (go_quiet (fail); try go_wp2))
 go_ret2
 exact ⟨rfl, _, rfl⟩
set_option maxHeartbeats 4000000 in
set_option maxRecDepth 100000 in
theorem st_new (base : Nat) (W : World) (hbase : base ≤ W.heap.size) :
  Calls Try.prog 10 #[] W fun e W' => e = .returned (.pointer (some ⟨W.heap.size, 0, none⟩)) ∧ St 63 35 (fun k => W.heap.size ≤ k) base W' W.heap.size [] [] ∧ Below W.heap.size W W' := by
 go_enter Try.func10, Try.ntmps10
 go_wp2_with fail
 go_ret
 exact ⟨rfl, ⟨hbase, Nat.le_refl _, .slice none 0 0, .slice none 0 0, blk_new W _, Kd.Q_nil _ _ _ _ _, Kd.Q_nil _ _ _ _ _⟩, below_alloc (Below.refl _ _) _⟩
set_option maxHeartbeats 4000000 in
set_option maxRecDepth 100000 in
theorem copy_nil (W : World) :
  Calls Try.prog 29 #[.pointer none] W fun e W' => e = .returned (.pointer none) ∧ W = W' := by
 go_enter Try.func29, Try.ntmps29
 go_wp2_with fail
 go_ret
 exact ⟨rfl, rfl⟩
theorem Q_56 {e base : Nat} {W : World} {P : Nat → Prop} {ok : Nat → Prop} {v : Value} {xs : List (List S56)} (h : Kd.Q kS e W base (fun k => P k ∧ ok k) v xs) : Kd.Q kS e W base (fun k => v.ownBlock = some k ∨ (P k ∧ is56 W k ∧ k < W.heap.size)) v xs := by
 obtain ⟨h0, inner, ho, hr⟩ := h
 refine ⟨fun k hk => .inl hk, inner, ho, hr.imp_ (fun _ _ hp => kS.M_mono (fun k hk => ?_) (kS.M_bound hp))⟩
 obtain ⟨⟨⟨h1, _⟩, h2⟩, _, h4, q, hq, cells, hc⟩ := hk
 have hq' : q = 56 := by simpa [kS, Kd.slice, k56, Kd.iso, Kd.pair, Kd.string, Kd.bool, Kd.scalar] using hq
 subst hq'
 exact ⟨.inr ⟨h1, ⟨cells, hc⟩, h4⟩, h2⟩
set_option maxHeartbeats 4000000 in
set_option maxRecDepth 100000 in
theorem copy_yes (P : Nat → Prop) (base g : Nat) (U R : List (List S56)) (W : World) (h : St 63 35 P base W g U R) (hbase : base ≤ W.heap.size) (hU : U.length ≤ 1000) (hRl : R.length ≤ 1000) :
  Calls Try.prog 29 #[.pointer (some ⟨g, 0, none⟩)] W fun e W' => ∃ g2, e = .returned (.pointer (some ⟨g2, 0, none⟩)) ∧ St 63 35 (fun k => W.heap.size ≤ k ∨ (P k ∧ is56 W k ∧ k < W.heap.size)) base W' g2 U R ∧ Below W.heap.size W W' := by
 obtain ⟨hg, hPg, vu, vr, hb, hu, hr⟩ := h
 obtain ⟨Au, cu, rfl, hcu⟩ := Kd.Q_slice hu
 obtain ⟨Ar, cr, rfl, hcr⟩ := Kd.Q_slice hr
 have BK := Aside0.mk (blk_drew hb)
 have HU := Aside0.mk (Kd.Q_drew (Q_56 hu))
 have HR := Aside0.mk (Kd.Q_drew (Q_56 hr))
 have hb1 := Aside0.mk (show base ≤ W.drew.heap.size from hbase)
 have s1 := Aside0.mk (show W.heap.size = W.drew.heap.size from rfl)
 have HB := Aside0.mk (below_drew1 (Below.refl W.heap.size W))
 have c0 : W.cell? ⟨g, 0, none⟩ = some (.slice Au U.length cu) := (blk_cell hb 0).trans rfl
 clear hb hu hr
 go_enter Try.func29, Try.ntmps29
 go_wp2_with fail
 refine start_ (n := 13) (S := fun w' => w'.cell? ⟨g, 0, none⟩ = some (.slice Au U.length cu) ∧ w'.cell? ⟨g, 1, none⟩ = some (.slice Ar R.length cr)) (ds := []) #[false, false, false, false, false, false, false, false, false, false, false, false, false] (by kernel_rfl) rfl rfl ⟨(blk_cell BK.out 0).trans rfl, (blk_cell BK.out 1).trans rfl⟩ (fun hHeld => ?_)
 generalize W.drew = W1 at BK HU HR hb1 s1 HB hHeld ⊢
 refine pure_ (i := 0) (N := some 5) (v := ?_) (a' := ?_) #[true, false, false, false, false, false, false, false, false, false, false, false, false] rfl rfl (by kernel_rfl) (fun _ _ _ h => h) (Or.inl ⟨by rfl, ?_⟩) ?_ ?_
 rotate_left
 ·intro w'
  go_simp
  with_reducible rfl
 rotate_left
 ·simp only [Act.put, List.setIfInBounds_toArray, List.set_cons_zero, List.set_cons_succ, i64_w, i32_w]
  rfl
 refine pure_ (i := 1) (N := some 6) (v := ?_) (a' := ?_) #[true, true, false, false, false, false, false, false, false, false, false, false, false] rfl rfl (by kernel_rfl) (fun _ _ _ h => h) (Or.inl ⟨by rfl, ?_⟩) ?_ ?_
 rotate_left
 ·intro w'
  go_simp
  with_reducible rfl
 rotate_left
 ·simp only [Act.put, List.setIfInBounds_toArray, List.set_cons_zero, List.set_cons_succ, i64_w, i32_w]
  rfl
 refine pure_ (i := 2) (N := some 7) (v := ?_) (a' := ?_) #[true, true, true, false, false, false, false, false, false, false, false, false, false] rfl rfl (by kernel_rfl) (fun _ _ _ h => h) (Or.inl ⟨by rfl, ?_⟩) ?_ ?_
 rotate_left
 ·intro w'
  go_simp
  with_reducible rfl
 rotate_left
 ·simp only [Act.put, List.setIfInBounds_toArray, List.set_cons_zero, List.set_cons_succ, i64_w, i32_w]
  rfl
 refine pure_ (i := 5) (N := some 10) (v := ?_) (a' := ?_) #[true, true, true, false, false, true, false, false, false, false, false, false, false] rfl rfl (by kernel_rfl) (fun _ _ _ h => h) (Or.inl ⟨by rfl, ?_⟩) ?_ ?_
 rotate_left
 ·intro w'
  go_simp
  with_reducible rfl
 rotate_left
 ·simp only [Act.put, List.setIfInBounds_toArray, List.set_cons_zero, List.set_cons_succ, i64_w, i32_w]
  rfl
 refine pure_ (i := 6) (N := some 11) (v := ?_) (a' := ?_) #[true, true, true, false, false, true, true, false, false, false, false, false, false] rfl rfl (by kernel_rfl) (fun _ _ _ h => h) (Or.inl ⟨by rfl, ?_⟩) ?_ ?_
 rotate_left
 ·intro w'
  go_simp
  with_reducible rfl
 rotate_left
 ·simp only [Act.put, List.setIfInBounds_toArray, List.set_cons_zero, List.set_cons_succ, i64_w, i32_w]
  rfl
 refine pure_ (i := 7) (N := some 12) (v := ?_) (a' := ?_) #[true, true, true, false, false, true, true, true, false, false, false, false, false] rfl rfl (by kernel_rfl) (fun _ _ _ h => h) (Or.inl ⟨by rfl, ?_⟩) ?_ ?_
 rotate_left
 ·intro w'
  go_simp
  with_reducible rfl
 rotate_left
 ·simp only [Act.put, List.setIfInBounds_toArray, List.set_cons_zero, List.set_cons_succ, i64_w, i32_w]
  rfl
 refine take_ (i := 3) (N := some 8) (v := ?_) (a' := ?_) #[true, true, true, true, false, true, true, true, false, false, false, false, false] rfl rfl (by kernel_rfl) (fun _ _ _ h => h) (Or.inl ⟨by rfl, ?_⟩) hHeld ?_ ?_
 rotate_left
 ·rintro w' ⟨s0, s1⟩
  go_simp
  with_reducible rfl
 rotate_left
 ·simp only [Act.put, List.setIfInBounds_toArray, List.set_cons_zero, List.set_cons_succ, i64_w, i32_w]
  rfl
 refine take_ (i := 8) (N := some 13) (v := ?_) (a' := ?_) #[true, true, true, true, false, true, true, true, true, false, false, false, false] rfl rfl (by kernel_rfl) (fun _ _ _ h => h) (Or.inl ⟨by rfl, ?_⟩) hHeld ?_ ?_
 rotate_left
 ·rintro w' ⟨s0, s1⟩
  go_simp
  with_reducible rfl
 rotate_left
 ·simp only [Act.put, List.setIfInBounds_toArray, List.set_cons_zero, List.set_cons_succ, i64_w, i32_w]
  rfl
 refine one_ (i := 4) (N := some 9) #[true, true, true, true, true, true, true, true, true, false, false, false, false] rfl rfl (by kernel_rfl) (by decide) (fun K hK => ?_)
 refine goes_ Try.func34 (by kernel_rfl) rfl #[.slice Au U.length cu] (by rfl) rfl rfl (by simp only [List.map_toArray, List.map_cons, List.map_nil]; rfl) ?_
 with_reducible refine (clone_s base _ Au cu U.length U W1 hb1.out HU.out (by omega)).mono ?_
 rintro e w2 ⟨v2, rfl, ho2, hb2, hf2⟩
 obtain ⟨A2, c2, rfl⟩ := Kd.R_slice ho2
 have BK2 := Aside0.mk (blk_below BK.out hb2)
 have HR2 := Aside0.mk (Kd.Q_below HR.out hb2)
 have HO2 := Aside0.mk ho2
 have HB2 := Aside0.mk hb2
 have HF2 := Aside0.mk hf2
 have s2 := Aside0.mk hb2.size
 clear ho2 hb2 hf2
 refine ⟨_, rfl, ?_⟩
 refine hK.out _ _ ⟨(blk_cell BK2.out 0).trans rfl, (blk_cell BK2.out 1).trans rfl⟩ (fun hHeld => ?_)
 clear hK K
 refine norm_ (a' := ?_) ?_ ?_
 rotate_left
 ·show Act.put _ (some 9) _ = _
  simp only [Act.put, List.setIfInBounds_toArray, List.set_cons_zero, List.set_cons_succ, i64_w, i32_w]
  rfl
 refine one_ (i := 9) (N := some 14) #[true, true, true, true, true, true, true, true, true, true, false, false, false] rfl rfl (by kernel_rfl) (by decide) (fun K hK => ?_)
 refine goes_ Try.func34 (by kernel_rfl) rfl #[.slice Ar R.length cr] (by rfl) rfl rfl (by simp only [List.map_toArray, List.map_cons, List.map_nil]; rfl) ?_
 with_reducible refine (clone_s base _ Ar cr R.length R w2 (Nat.le_trans hb1.out s2.out) HR2.out (by omega)).mono ?_
 rintro e w3 ⟨v3, rfl, ho3, hb3, hf3⟩
 obtain ⟨A3, c3, rfl⟩ := Kd.R_slice ho3
 have BK3 := Aside0.mk (blk_below BK2.out hb3)
 have HO3 := Aside0.mk ho3
 have HB3 := Aside0.mk hb3
 have HF3 := Aside0.mk hf3
 clear ho3 hb3 hf3
 refine ⟨_, rfl, ?_⟩
 refine hK.out _ _ ⟨(blk_cell BK3.out 0).trans rfl, (blk_cell BK3.out 1).trans rfl⟩ (fun hHeld => ?_)
 clear hK K
 refine norm_ (a' := ?_) ?_ ?_
 rotate_left
 ·show Act.put _ (some 14) _ = _
  simp only [Act.put, List.setIfInBounds_toArray, List.set_cons_zero, List.set_cons_succ, i64_w, i32_w]
  rfl
 refine pure_ (i := 10) (N := some 15) (v := ?_) (a' := ?_) #[true, true, true, true, true, true, true, true, true, true, true, false, false] rfl rfl (by kernel_rfl) (fun _ _ _ h => h) (Or.inl ⟨by rfl, ?_⟩) ?_ ?_
 rotate_left
 ·intro w'
  go_simp
  with_reducible rfl
 rotate_left
 ·simp only [Act.put, List.setIfInBounds_toArray, List.set_cons_zero, List.set_cons_succ, i64_w, i32_w]
  rfl
 refine one_ (i := 11) (N := some 16) #[true, true, true, true, true, true, true, true, true, true, true, true, false] rfl rfl (by kernel_rfl) (by decide) (fun K hK => ?_)
 refine value_ (w1 := ?_) (v := ?_) (by rfl) rfl ?_ ?_
 rotate_left 2
 ·go_simp
  constructor
  ·rfl
  ·rfl
 refine hK.out _ _ ⟨(blk_cell (blk_alloc BK3.out _) 0).trans rfl, (blk_cell (blk_alloc BK3.out _) 1).trans rfl⟩ (fun hHeld => ?_)
 clear hK K
 refine norm_ (a' := ?_) ?_ ?_
 rotate_left
 ·show Act.put _ (some 16) _ = _
  simp only [Act.put, List.setIfInBounds_toArray, List.set_cons_zero, List.set_cons_succ, i64_w, i32_w]
  rfl
 refine pure_ (i := 12) (N := some 2) (v := ?_) (a' := ?_) #[true, true, true, true, true, true, true, true, true, true, true, true, true] rfl rfl (by kernel_rfl) (fun _ _ _ h => h) (Or.inl ⟨by rfl, ?_⟩) ?_ ?_
 rotate_left
 ·intro w'
  go_simp
  with_reducible rfl
 rotate_left
 ·simp only [Act.put, List.setIfInBounds_toArray, List.set_cons_zero, List.set_cons_succ, i64_w, i32_w]
  rfl
 refine done_ (by kernel_rfl) ?_
 go_wp2_with fail
 go_ret
 have N2 : ∀ k, (Value.slice A2 U.length c2).ownBlock = some k → W1.heap.size ≤ k ∧ k < w2.heap.size := fun k hk => ⟨HF2.out k hk, (Kd.R_bound HO2.out).1 k hk |>.2.2.1⟩
 have N3 : ∀ k, (Value.slice A3 R.length c3).ownBlock = some k → w2.heap.size ≤ k := HF3.out
 refine ⟨w3.heap.size, rfl, ⟨by have := s2.out; have := HB3.out.size; have := hb1.out; omega, .inl (by have := s1.out; have := s2.out; have := HB3.out.size; omega), _, _, blk_new w3 _, ?_, ?_⟩, ?_⟩
 ·refine Kd.Q_mono (Kd.Q_of_R (Kd.R_alloc (Kd.R_below (Kd.R_bound HO2.out |> fun h => Kd.R_mono (Kd.R_bound HO2.out) (ok' := fun k => (((Value.slice Au U.length cu).ownBlock = some k ∨ (P k ∧ is56 W k ∧ k < W.heap.size)) ∧ some k ≠ (Value.slice Au U.length cu).ownBlock ∨ W1.heap.size ≤ k) ∧ k < w2.heap.size) (fun k hk => ⟨hk.1, hk.2.2.1⟩)) HB3.out) _)) ?_
  rintro k ⟨hk, hlt⟩
  refine ⟨?_, fun e => by have := N3 k e.symm; omega⟩
  rcases hk with ⟨hk | hk, hne⟩ | hk
  ·exact absurd hk.symm hne
  ·exact .inr hk
  ·exact .inl (by have := s1.out; omega)
 ·refine Kd.Q_mono (Kd.Q_of_R (Kd.R_alloc HO3.out _)) ?_
  intro k hk
  refine ⟨?_, fun e => ?_⟩
  ·rcases hk with ⟨hk | hk, hne⟩ | hk
   ·exact absurd hk.symm hne
   ·exact .inr hk
   ·exact .inl (by have := s1.out; have := s2.out; omega)
  ·have h2 := N2 k e.symm
   rcases hk with ⟨hk | hk, hne⟩ | hk
   ·exact absurd hk.symm hne
   ·have := hk.2.2; have := s1.out; omega
   ·omega
 ·exact ((HB.out.trans (HB2.out.mono (by rw [s1.out]; exact Nat.le_refl _))).trans (HB3.out.mono (by have := s1.out; have := s2.out; omega))).alloc (by have := s1.out; have := s2.out; have := HB3.out.size; omega) _
theorem at_LF {w0 w : World} {A : Option Addr} {n : Nat} {xs : List (List (List S56))} (h : Kd.C (Kd.slice 35 (Kd.fixed kS w0)) w A n xs) (i : Int) (h0 : 0 ≤ i) (h1 : i < n) : ∃ ad A0 c0, A = some ad ∧ w.cell? (ad.add i.toNat) = some (.slice A0 (rd_L5 xs i).length c0) ∧ (rd_L5 xs i).length ≤ c0 ∧ (Kd.fixed kS w0).C w A0 (rd_L5 xs i).length (rd_L5 xs i) := by
 obtain ⟨ad, c, e, _, hK, hc0⟩ := Kd.C_get h ([] : List (List S56)) i h0 h1
 have hc : ∀ j u, c[j]? = some u → w.cell? (ad.add (i.toNat * 1 + j)) = some u := hc0
 obtain ⟨A0, c0, rfl, l0, g0⟩ := hK
 exact ⟨ad, A0, c0, e, by have hq := hc 0 _ rfl; rwa [Nat.mul_one, Nat.add_zero] at hq, l0, g0⟩
theorem Kd.C_fixed {α : Type} {d : Kd α} {W w1 : World} {A : Option Addr} {n : Nat} {xs : List α} (h : d.C W A n xs) (hb : Below W.heap.size W w1) : ReadsRow (d.K W) d.sz w1 A n xs := ReadsRow.imp_ h hb (fun _ _ hp => hp)
set_option maxHeartbeats 4000000 in
set_option maxRecDepth 100000 in
theorem grow_0 (n : Int) (W : World) (h0 : 0 ≤ n) (h1 : n ≤ 100000) :
  Calls Try.prog 47 #[.slice none 0 0, .int .i64 n] W fun e W' => ∃ v, e = .returned v ∧ (∀ d : Kd (List S56), d.sz = 1 → Kd.R d 35 W' W.heap.size (fun _ => True) v []) ∧ Below W.heap.size W W' := by
 have t1 : (n < 0) = False := eq_false (by omega)
 have e1 : IntKind.i64.wrap n = n := IntWalk.i64_in _ (by omega)
 by_cases hz : 0 < n
 ·go_enter Try.func47, Try.ntmps47
  go_wp2_with (at_builtin; go_loud ((refine Kd.R_append_zeros kS (w0 := W) W.heap.size rfl (.tmp 20) (.tmp 21) 61 3 35 (.slice none 0 0) 24 rfl Try.underlying61 Try.underlying3 info35 rfl (by decide) (by decide) (.slice none 0 0) [] [] n (fun _ => True) rfl rfl ⟨_, rfl, Kd.R_nil _ _ _ _ _⟩ (fun _ _ => trivial) (Kd.R_nil _ _ _ _ _) (by omega) (Below.refl _ _) (Nat.le_refl _) ?aL ?_; (case aL => simp; omega); intro v1 w1 ho hb _ _; obtain ⟨A1, c1, rfl⟩ := Kd.R_slice ho; have HO := Aside0.mk ho; have HB := Aside0.mk hb; clear ho hb)))
  go_ret
  refine ⟨_, rfl, fun d hd => ?_, HB.out⟩
  obtain ⟨_, inner, ho, _⟩ := Kd.R_take (m := 0) HO.out (Nat.zero_le _)
  have hl := ho.1
  have hi : inner = [] := by simpa using hl
  subst hi
  refine ⟨fun _ _ => trivial, [], ?_, ⟨by simp, fun j p hj => by simp at hj⟩⟩
  rw [hd]
  exact ho
 ·obtain rfl : n = 0 := by omega
  go_enter Try.func47, Try.ntmps47
  go_wp2_with fail
  go_ret
  exact ⟨_, rfl, fun d _ => Kd.R_nil _ _ _ _ _, Below.refl _ _⟩
theorem flat_next {α : Type} (xs : List (List α)) (x : Int) (h0 : 0 ≤ x) (h1 : x < xs.length) : (xs.take (x + 1).toNat).flatten = (xs.take x.toNat).flatten ++ xs.getD x.toNat [] := by
 have hl : x.toNat < xs.length := by omega
 rw [show (x + 1).toNat = x.toNat + 1 by omega, List.take_succ_eq_append_getElem hl, List.flatten_append, List.flatten_cons, List.flatten_nil, List.append_nil, List.getD_eq_getElem?_getD, List.getElem?_eq_getElem hl, Option.getD_some]
theorem flat_le {α : Type} (xs : List (List α)) (n : Nat) : (xs.take n).flatten.length ≤ xs.flatten.length := by
 have h : xs.flatten = (xs.take n).flatten ++ (xs.drop n).flatten := by rw [← List.flatten_append, List.take_append_drop]
 rw [h, List.length_append]
 omega
set_option maxHeartbeats 4000000 in
set_option maxRecDepth 100000 in
theorem concat_c (w0 : World) (A : Option Addr) (c : Nat) (xs : List (List (List S56))) (W : World) (hr : Kd.C (Kd.slice 35 (Kd.fixed kS w0)) W A xs.length xs) (hc : xs.length ≤ c) (hx : xs.length ≤ 1000) (hl : xs.flatten.length ≤ 100000) :
  Calls Try.prog 36 #[.slice A xs.length c] W fun e W' => ∃ v, e = .returned v ∧ Kd.R (Kd.fixed kS w0) 35 W' W.heap.size (fun _ => True) v xs.flatten ∧ Below W.heap.size W W' := by
 have HR := Aside0.mk hr
 clear hr
 go_enter Try.func36, Try.ntmps36
 go_wp2_with fail
 go_loop [3, 5, 11] (fun s _ i => ∃ x : Int, i = .int .i64 x ∧ 0 ≤ x ∧ x ≤ xs.length ∧ s = .int .i64 ((xs.take x.toNat).flatten.length : Int)) (fun _ _ i => (xs.length - (intOf i).toNat))
 case atStart => exact ⟨0, rfl, Int.le_refl _, by omega, rfl⟩
 case round =>
  obtain ⟨x, rfl, hx0, hxl, rfl⟩ := hrel
  by_cases hlt : x < (xs.length : Int)
  ·obtain ⟨ad, A0, c0, rfl, q0, q1, _⟩ := at_LF HR.out x hx0 hlt
   have hf := flat_next xs x hx0 hlt
   have hn1 := flat_le xs x.toNat
   have hn2 := flat_le xs (x + 1).toNat
   rw [hf, List.length_append] at hn2
   obtain ⟨y, hy⟩ : ∃ y, rd_L5 xs x = y := ⟨_, rfl⟩
   have hy2 : xs.getD x.toNat [] = y := hy
   rw [hy2] at hf hn2
   rw [hy] at q0
   have HF := Aside0.mk hf
   obtain ⟨m, hm⟩ : ∃ m, (xs.take x.toNat).flatten.length = m := ⟨_, rfl⟩
   rw [hm] at hn1 hn2 ⊢
   have HM := Aside0.mk hm
   have t1 : ((m : Int) + (y.length : Int) < 0) = False := eq_false (by omega)
   have e1 : IntKind.i64.wrap ((m : Int) + (y.length : Int)) = (m : Int) + y.length := IntWalk.i64_in _ (by omega)
   clear hf hm hy hy2
   go_wp2_with fail
   go_round
   case rel => exact ⟨x + 1, rfl, by omega, by omega, by rw [HF.out, List.length_append, HM.out]; rfl⟩
   case measure => simp [intOf]; omega
  ·have hxe : x = (xs.length : Int) := by omega
   have hn1 := flat_le xs x.toNat
   obtain ⟨m, hm⟩ : ∃ m, (xs.take x.toNat).flatten.length = m := ⟨_, rfl⟩
   rw [hm] at hn1 ⊢
   clear hm
   go_wp2_with fail
   refine (grow_0 (m : Int) _ (by omega) (by omega)).mono ?_
   rintro e w2 ⟨v2, rfl, ho2, hb2⟩
   have HO := Aside0.mk (ho2 (Kd.fixed kS w0) rfl)
   have HB := Aside0.mk hb2
   clear ho2 hb2
   go_wp2_with fail
   go_loopw [6, 8, 27] (fun v _ i wr => ∃ x : Int, i = .int .i64 x ∧ 0 ≤ x ∧ x ≤ xs.length ∧ Aside0 (Kd.R (Kd.fixed kS w0) 35 wr W.heap.size (fun _ => True) v (xs.take x.toNat).flatten) ∧ Aside0 (Below W.heap.size W wr)) (fun _ _ i _ => (xs.length - (intOf i).toNat))
   case atStart => exact ⟨0, rfl, Int.le_refl _, by omega, HO, HB⟩
   case round =>
    clear HO HB
    obtain ⟨x, rfl, hx0, hxl, HO, HB⟩ := hrel
    have hf := flat_next xs x hx0
    have hn2 := flat_le xs (x + 1).toNat
    have hze := fun h : x = xs.length => show (xs.take x.toNat).flatten = xs.flatten by rw [h, Int.toNat_natCast, List.take_length]
    obtain ⟨zs, hzs⟩ : ∃ zs, (xs.take x.toNat).flatten = zs := ⟨_, rfl⟩
    rw [hzs] at HO hf hze
    clear hzs
    obtain ⟨A1, c1, rfl⟩ := Kd.R_slice HO.out
    by_cases hlt : x < (xs.length : Int)
    ·obtain ⟨ad, A0, c0, rfl, q0, q1, q2⟩ := at_LF HR.out x hx0 hlt
     replace q0 := (HB.out.cell (World.block_lt_of_cell? W _ q0)).trans q0
     replace hf := hf hlt
     rw [hf, List.length_append] at hn2
     obtain ⟨y, hy⟩ : ∃ y, rd_L5 xs x = y := ⟨_, rfl⟩
     have hy2 : xs.getD x.toNat [] = y := hy
     rw [hy2] at hf hn2
     rw [hy] at q0 q2
     have HF := Aside0.mk hf
     have HC := Aside0.mk q2
     clear hf hy hy2 q2 q1 hze
     go_wp2_with (at_builtin; go_loud ((refine Kd.R_append_rows (Kd.fixed kS w0) (w0 := W) W.heap.size rfl (.tmp 31) (.tmp 32) 61 35 (.slice none 0 0) 24 rfl Try.underlying61 info35 rfl Nat.zero_lt_one (by decide) (.slice A1 zs.length c1) zs y A0 y.length c0 (fun _ => True) (fun _ => False) rfl rfl HO.out (Kd.C_fixed HC.out HB.out) (fun x cs h => h) (fun _ h => h.elim) (fun _ _ => trivial) HB.out HB.out.size ?aL ?_; (case aL => omega); intro v3 w3 ho hb _ _; have HO3 := Aside0.mk ho; have HB3 := Aside0.mk hb; clear ho hb)))
     go_roundw
     case rel => exact ⟨x + 1, rfl, by omega, by omega, ⟨by rw [HF.out]; exact HO3.out⟩, HB3⟩
     case measure => simp [intOf]; omega
    ·have hxe : x = (xs.length : Int) := by omega
     have HZ := Aside0.mk (hze hxe)
     clear hf hn2 hze
     go_wp2_with fail
     go_ret
     rw [← HZ.out]
     exact ⟨_, rfl, HO.out, HB.out⟩
theorem concat_two (w0 : World) (A : Option Addr) (U R UR : List (List S56)) (W : World) (hr : Kd.C (Kd.slice 35 (Kd.fixed kS w0)) W A 2 [U, R]) (hl : [U, R].flatten = UR) (hn : UR.length ≤ 100000) :
  Calls Try.prog 36 #[.slice A 2 2] W fun e W' => ∃ v, e = .returned v ∧ Kd.R (Kd.fixed kS w0) 35 W' W.heap.size (fun _ => True) v UR ∧ Below W.heap.size W W' := by
 subst hl
 exact concat_c w0 A 2 [U, R] W hr (Nat.le_refl _) (by simp) hn
theorem put_any (k : Nat) (u : Value) (l : List Int) (a : Int) (r : List Int) (w W : World) (hB : Below w.heap.size w W) (ho : Kd.R (Kd.int .u8) 5 W w.heap.size (fun k_ => w.heap.size ≤ k_) u l) (h : num_Put.f k l a = some r) :
  Calls Try.prog 35 #[u, .int .i64 a] W fun e W' => ∃ v : Value, e = .returned v ∧ Kd.R (Kd.int .u8) 5 W' w.heap.size (fun k_ => w.heap.size ≤ k_) v r ∧ Below w.heap.size w W' ∧ Kept W W' (fun k_ => some k_ = u.ownBlock) := by
 refine (num_Put.calls k (fun k_ => some k_ = u.ownBlock) u l a r w W hB (Kd.R_tight rfl ho) h).mono ?_
 rintro e W' ⟨v, rfl, h1, h2, h3⟩
 exact ⟨v, rfl, Kd.R_mono h1 (fun k_ hk => hk.elim (fun e => ho.1 k_ e.symm) (fun e => Nat.le_trans hB.size e)), h2, h3⟩
theorem putText_any (k : Nat) (u : Value) (l : List Int) (a : ByteArray) (r : List Int) (w W : World) (hB : Below w.heap.size w W) (ho : Kd.R (Kd.int .u8) 5 W w.heap.size (fun k_ => w.heap.size ≤ k_) u l) (h : num_PutText.f k l a = some r) :
  Calls Try.prog 38 #[u, .string a] W fun e W' => ∃ v : Value, e = .returned v ∧ Kd.R (Kd.int .u8) 5 W' w.heap.size (fun k_ => w.heap.size ≤ k_) v r ∧ Below w.heap.size w W' ∧ Kept W W' (fun k_ => some k_ = u.ownBlock) := by
 refine (num_PutText.calls k (fun k_ => some k_ = u.ownBlock) u l a r w W hB (Kd.R_tight rfl ho) h).mono ?_
 rintro e W' ⟨v, rfl, h1, h2, h3⟩
 exact ⟨v, rfl, Kd.R_mono h1 (fun k_ hk => hk.elim (fun e => ho.1 k_ e.symm) (fun e => Nat.le_trans hB.size e)), h2, h3⟩
theorem flag_any (k : Nat) (u : Value) (l : List Int) (a : Bool) (r : List Int) (w W : World) (hB : Below w.heap.size w W) (ho : Kd.R (Kd.int .u8) 5 W w.heap.size (fun k_ => w.heap.size ≤ k_) u l) (h : stack_flag.f k l a = some r) :
  Calls Try.prog 37 #[u, .bool a] W fun e W' => ∃ v : Value, e = .returned v ∧ Kd.R (Kd.int .u8) 5 W' w.heap.size (fun k_ => w.heap.size ≤ k_) v r ∧ Below w.heap.size w W' ∧ Kept W W' (fun k_ => some k_ = u.ownBlock) := by
 refine (stack_flag.calls k (fun k_ => some k_ = u.ownBlock) u l a r w W hB (Kd.R_tight rfl ho) h).mono ?_
 rintro e W' ⟨v, rfl, h1, h2, h3⟩
 exact ⟨v, rfl, Kd.R_mono h1 (fun k_ hk => hk.elim (fun e => ho.1 k_ e.symm) (fun e => Nat.le_trans hB.size e)), h2, h3⟩
/-- The row of steps that are read in an elder world stays where a row of bytes is written. -/
theorem row_kept {α : Type} {d : Kd α} {w0 W W2 : World} {base b2 : Nat} {ok ok2 : Nat → Prop} {u v : Value} {xs : List α} {bs : List Int} (h : Kd.R (Kd.fixed d w0) 35 W base ok v xs) (hk : Kept W W2 (fun k => some k = u.ownBlock)) (hu : Kd.R (Kd.int .u8) 5 W b2 ok2 u bs) : Kd.R (Kd.fixed d w0) 35 W2 base ok v xs := by
 refine Kd.R_mono (Kd.R_kept (Kd.R_bound h) hk (fun k hk1 he => ?_)) (fun k hk => hk.1)
 obtain ⟨_, _, _, q, hq, cells, hc⟩ := hk1
 have hq2 : q = 35 := by simpa [Kd.fixed] using hq
 subst hq2
 exact Kd.R_ne hu hc (by decide) he
def stack_encC (k : Nat) : List Int → List S56 → Option (List Int)
 | b, [] => some b
 | b, c :: l => (num_PutText.f k b c.f0).bind fun b => (stack_flag.f k b c.f1).bind fun b => (stack_flag.f k b c.f2).bind fun b => (num_PutText.f k b c.f3).bind fun b => (num_PutText.f k b c.f4).bind fun b => stack_encC k b l
def stack_encS (k : Nat) : List Int → List (List S56) → Option (List Int)
 | b, [] => some b
 | b, x :: l => (num_Put.f k b (x.length : Int)).bind fun b => (stack_encC k b x).bind fun b => stack_encS k b l
/-- What the stack writes. -/
def stack_enc (k : Nat) (U R : List (List S56)) : Option (List Int) := (num_Put.f k [] (U.length : Int)).bind fun b => (num_Put.f k b (R.length : Int)).bind fun b => stack_encS k b (U ++ R)
theorem at_F {w0 w : World} {A : Option Addr} {n : Nat} {xs : List (List S56)} (h : (Kd.fixed kS w0).C w A n xs) (i : Int) (h0 : 0 ≤ i) (h1 : i < n) : ∃ ad A0 c0, A = some ad ∧ w.cell? (ad.add i.toNat) = some (.slice A0 (rd_L3 xs i).length c0) ∧ (rd_L3 xs i).length ≤ c0 ∧ Kd.C k56 w0 A0 (rd_L3 xs i).length (rd_L3 xs i) := by
 obtain ⟨ad, c, e, _, hK, hc0⟩ := Kd.C_get h ([] : List S56) i h0 h1
 have hc : ∀ j u, c[j]? = some u → w.cell? (ad.add (i.toNat * 1 + j)) = some u := hc0
 obtain ⟨A0, c0, rfl, l0, g0⟩ := hK
 exact ⟨ad, A0, c0, e, by have hq := hc 0 _ rfl; rwa [Nat.mul_one, Nat.add_zero] at hq, l0, g0⟩
theorem C_fx {α : Type} {d : Kd α} {W w1 : World} {A : Option Addr} {n : Nat} {xs : List α} (h : d.C W A n xs) (hb : Below W.heap.size W w1) : (Kd.fixed d W).C w1 A n xs := Kd.C_fixed (d := d) h hb
set_option maxHeartbeats 4000000 in
set_option maxRecDepth 100000 in
theorem enc_nil (w : World) :
  Calls Try.prog 21 #[.pointer none] w fun e w' => e = .returned (.slice none 0 0) ∧ w = w' := by
 go_enter Try.func21, Try.ntmps21
 go_wp2_with fail
 go_ret
 exact ⟨rfl, rfl⟩
theorem C_two {d : Kd (List S56)} {W : World} {b : Nat} {Au Ar : Option Addr} {cu cr : Nat} {U R : List (List S56)} (hb : W.heap[b]? = some (.cells #[.slice Au U.length cu, .slice Ar R.length cr] 61 (0, 0))) (hu : U.length ≤ cu) (hr : R.length ≤ cr) (h1 : d.C W Au U.length U) (h2 : d.C W Ar R.length R) : Kd.C (Kd.slice 35 d) W (some ⟨b, 0, none⟩) 2 [U, R] := by
 refine ⟨rfl, by decide, fun _ => ⟨_, rfl, fun j p hj => ?_⟩⟩
 have hcell : ∀ i, W.cell? ((⟨b, 0, none⟩ : Addr).add i) = (#[Value.slice Au U.length cu, .slice Ar R.length cr])[i]? := by
  intro i
  have h0 : (⟨b, 0, none⟩ : Addr).add i = ⟨b, i, none⟩ := by
   unfold Addr.add
   split
   ·subst_vars; rfl
   ·simp
  rw [h0, blk_cell hb i]
 match j, hj with
 | 0, hj =>
  obtain rfl := Option.some.inj hj
  refine ⟨[.slice Au U.length cu], rfl, ⟨Au, cu, rfl, hu, h1⟩, fun i u hi => ?_⟩
  match i, hi with
  | 0, hi => rw [hcell]; exact hi
 | 1, hj =>
  obtain rfl := Option.some.inj hj
  refine ⟨[.slice Ar R.length cr], rfl, ⟨Ar, cr, rfl, hr, h2⟩, fun i u hi => ?_⟩
  match i, hi with
  | 0, hi => rw [hcell]; exact hi
set_option maxHeartbeats 4000000 in
set_option maxRecDepth 100000 in
theorem enc_yes (k : Nat) (P : Nat → Prop) (base g : Nat) (U R : List (List S56)) (r : List Int) (w : World) (h : St 63 35 P base w g U R) (hU : U.length ≤ 1000) (hRl : R.length ≤ 1000) (hx : ∀ x ∈ U ++ R, x.length ≤ 1000) (hf : stack_enc k U R = some r) :
  Calls Try.prog 21 #[.pointer (some ⟨g, 0, none⟩)] w fun e w' => ∃ v, e = .returned v ∧ Kd.R (Kd.int .u8) 5 w' w.heap.size (fun _ => True) v r ∧ Below w.heap.size w w' := by
 obtain ⟨hg, hPg, vu, vr, hb, hu, hr⟩ := h
 obtain ⟨Au, cu, rfl, hcu⟩ := Kd.Q_slice hu
 obtain ⟨Ar, cr, rfl, hcr⟩ := Kd.Q_slice hr
 have HCU := Aside0.mk (Kd.Q_reads' hu).2.2
 have HCR := Aside0.mk (Kd.Q_reads' hr).2.2
 have c0 : w.cell? ⟨g, 0, none⟩ = some (.slice Au U.length cu) := (blk_cell hb 0).trans rfl
 have c1 : w.cell? ⟨g, 1, none⟩ = some (.slice Ar R.length cr) := (blk_cell hb 1).trans rfl
 have BK := Aside0.mk hb
 unfold stack_enc at hf
 obtain ⟨b1, hf1, hf⟩ := Option.bind_eq_some_iff.1 hf
 obtain ⟨b2, hf2, hf⟩ := Option.bind_eq_some_iff.1 hf
 have F1 := Aside0.mk hf1
 have F2 := Aside0.mk hf2
 have HLU := Aside0.mk hcu
 have HLR := Aside0.mk hcr
 obtain ⟨UR, hUR⟩ : ∃ UR, [U, R].flatten = UR := ⟨_, rfl⟩
 have hUR2 : U ++ R = UR := by rw [← hUR]; simp
 have hURl : UR.length ≤ 2000 := by rw [← hUR2, List.length_append]; omega
 rw [hUR2] at hf hx
 have F3 := Aside0.mk hf
 have HUR := Aside0.mk hUR
 have HXL := Aside0.mk hx
 have HB0 := Aside0.mk (below_drew1 (Below.refl w.heap.size w))
 clear hb hu hr hf1 hf2 hf hUR hUR2 hx hcu hcr
 go_enter Try.func21, Try.ntmps21
 go_wp2_with fail
 refine start_ (n := 13) (S := fun w' => w'.cell? ⟨g, 0, none⟩ = some (.slice Au U.length cu) ∧ w'.cell? ⟨g, 1, none⟩ = some (.slice Ar R.length cr)) (ds := []) #[false, false, false, false, false, false, false, false, false, false, false, false, false] (by kernel_rfl) rfl rfl ⟨(blk_cell (blk_below BK.out HB0.out) 0).trans rfl, (blk_cell (blk_below BK.out HB0.out) 1).trans rfl⟩ (fun hHeld => ?_)
 refine pure_ (i := 0) (N := some 10) (v := ?_) (a' := ?_) #[true, false, false, false, false, false, false, false, false, false, false, false, false] rfl rfl (by kernel_rfl) (fun _ _ _ h => h) (Or.inl ⟨by rfl, ?_⟩) ?_ ?_
 rotate_left
 ·intro w'
  go_simp
  with_reducible rfl
 rotate_left
 ·simp only [Act.put, List.setIfInBounds_toArray, List.set_cons_zero, List.set_cons_succ, i64_w, i32_w]
  rfl
 refine pure_ (i := 1) (N := some 11) (v := ?_) (a' := ?_) #[true, true, false, false, false, false, false, false, false, false, false, false, false] rfl rfl (by kernel_rfl) (fun _ _ _ h => h) (Or.inl ⟨by rfl, ?_⟩) ?_ ?_
 rotate_left
 ·intro w'
  go_simp
  with_reducible rfl
 rotate_left
 ·simp only [Act.put, List.setIfInBounds_toArray, List.set_cons_zero, List.set_cons_succ, i64_w, i32_w]
  rfl
 refine pure_ (i := 2) (N := some 12) (v := ?_) (a' := ?_) #[true, true, true, false, false, false, false, false, false, false, false, false, false] rfl rfl (by kernel_rfl) (fun _ _ _ h => h) (Or.inl ⟨by rfl, ?_⟩) ?_ ?_
 rotate_left
 ·intro w'
  go_simp
  with_reducible rfl
 rotate_left
 ·simp only [Act.put, List.setIfInBounds_toArray, List.set_cons_zero, List.set_cons_succ, i64_w, i32_w]
  rfl
 refine pure_ (i := 6) (N := some 16) (v := ?_) (a' := ?_) #[true, true, true, false, false, false, true, false, false, false, false, false, false] rfl rfl (by kernel_rfl) (fun _ _ _ h => h) (Or.inl ⟨by rfl, ?_⟩) ?_ ?_
 rotate_left
 ·intro w'
  go_simp
  with_reducible rfl
 rotate_left
 ·simp only [Act.put, List.setIfInBounds_toArray, List.set_cons_zero, List.set_cons_succ, i64_w, i32_w]
  rfl
 refine pure_ (i := 7) (N := some 17) (v := ?_) (a' := ?_) #[true, true, true, false, false, false, true, true, false, false, false, false, false] rfl rfl (by kernel_rfl) (fun _ _ _ h => h) (Or.inl ⟨by rfl, ?_⟩) ?_ ?_
 rotate_left
 ·intro w'
  go_simp
  with_reducible rfl
 rotate_left
 ·simp only [Act.put, List.setIfInBounds_toArray, List.set_cons_zero, List.set_cons_succ, i64_w, i32_w]
  rfl
 refine pure_ (i := 8) (N := some 18) (v := ?_) (a' := ?_) #[true, true, true, false, false, false, true, true, true, false, false, false, false] rfl rfl (by kernel_rfl) (fun _ _ _ h => h) (Or.inl ⟨by rfl, ?_⟩) ?_ ?_
 rotate_left
 ·intro w'
  go_simp
  with_reducible rfl
 rotate_left
 ·simp only [Act.put, List.setIfInBounds_toArray, List.set_cons_zero, List.set_cons_succ, i64_w, i32_w]
  rfl
 refine take_ (i := 3) (N := some 13) (v := ?_) (a' := ?_) #[true, true, true, true, false, false, true, true, true, false, false, false, false] rfl rfl (by kernel_rfl) (fun _ _ _ h => h) (Or.inl ⟨by rfl, ?_⟩) hHeld ?_ ?_
 rotate_left
 ·rintro w' ⟨s0, s1⟩
  go_simp
  with_reducible rfl
 rotate_left
 ·simp only [Act.put, List.setIfInBounds_toArray, List.set_cons_zero, List.set_cons_succ, i64_w, i32_w]
  rfl
 refine pure_ (i := 4) (N := some 14) (v := ?_) (a' := ?_) #[true, true, true, true, true, false, true, true, true, false, false, false, false] rfl rfl (by kernel_rfl) (fun _ _ _ h => h) (Or.inl ⟨by rfl, ?_⟩) ?_ ?_
 rotate_left
 ·intro w'
  go_simp
  with_reducible rfl
 rotate_left
 ·simp only [Act.put, List.setIfInBounds_toArray, List.set_cons_zero, List.set_cons_succ, i64_w, i32_w]
  rfl
 refine take_ (i := 9) (N := some 19) (v := ?_) (a' := ?_) #[true, true, true, true, true, false, true, true, true, true, false, false, false] rfl rfl (by kernel_rfl) (fun _ _ _ h => h) (Or.inl ⟨by rfl, ?_⟩) hHeld ?_ ?_
 rotate_left
 ·rintro w' ⟨s0, s1⟩
  go_simp
  with_reducible rfl
 rotate_left
 ·simp only [Act.put, List.setIfInBounds_toArray, List.set_cons_zero, List.set_cons_succ, i64_w, i32_w]
  rfl
 refine pure_ (i := 10) (N := some 20) (v := ?_) (a' := ?_) #[true, true, true, true, true, false, true, true, true, true, true, false, false] rfl rfl (by kernel_rfl) (fun _ _ _ h => h) (Or.inl ⟨by rfl, ?_⟩) ?_ ?_
 rotate_left
 ·intro w'
  go_simp
  with_reducible rfl
 rotate_left
 ·simp only [Act.put, List.setIfInBounds_toArray, List.set_cons_zero, List.set_cons_succ, i64_w, i32_w]
  rfl
 refine one_ (i := 5) (N := some 15) #[true, true, true, true, true, true, true, true, true, true, true, false, false] rfl rfl (by kernel_rfl) (by decide) (fun K hK => ?_)
 refine goes_ Try.func35 (by kernel_rfl) rfl #[.slice none 0 0, .int .i64 (U.length : Int)] (by rfl) rfl rfl (by simp only [List.map_toArray, List.map_cons, List.map_nil]; rfl) ?_
 with_reducible refine (put_any k (.slice none 0 0) [] _ b1 w _ HB0.out (Kd.R_nil _ _ _ _ _) F1.out).mono ?_
 rintro e w1 ⟨v1, rfl, ho1, hb1, _⟩
 have HO1 := Aside0.mk ho1
 have HB1 := Aside0.mk hb1
 clear ho1 hb1
 refine ⟨_, rfl, ?_⟩
 refine hK.out _ _ ⟨(blk_cell (blk_below BK.out HB1.out) 0).trans rfl, (blk_cell (blk_below BK.out HB1.out) 1).trans rfl⟩ (fun hHeld => ?_)
 clear hK K
 refine norm_ (a' := ?_) ?_ ?_
 rotate_left
 ·show Act.put _ (some 15) _ = _
  simp only [Act.put, List.setIfInBounds_toArray, List.set_cons_zero, List.set_cons_succ, i64_w, i32_w]
  rfl
 refine one_ (i := 11) (N := some 21) #[true, true, true, true, true, true, true, true, true, true, true, true, false] rfl rfl (by kernel_rfl) (by decide) (fun K hK => ?_)
 refine goes_ Try.func35 (by kernel_rfl) rfl #[v1, .int .i64 (R.length : Int)] (by rfl) rfl rfl (by simp only [List.map_toArray, List.map_cons, List.map_nil]; rfl) ?_
 with_reducible refine (put_any k v1 b1 _ b2 w _ HB1.out HO1.out F2.out).mono ?_
 rintro e w2 ⟨v2, rfl, ho2, hb2, _⟩
 have HO2 := Aside0.mk (Kd.R_drew ho2)
 have HB2 := Aside0.mk hb2
 have HB3 := Aside0.mk (below_drew1 hb2)
 clear ho2 hb2
 refine ⟨_, rfl, ?_⟩
 refine hK.out _ _ ⟨(blk_cell (blk_below BK.out HB2.out) 0).trans rfl, (blk_cell (blk_below BK.out HB2.out) 1).trans rfl⟩ (fun hHeld => ?_)
 clear hK K
 refine norm_ (a' := ?_) ?_ ?_
 rotate_left
 ·show Act.put _ (some 21) _ = _
  simp only [Act.put, List.setIfInBounds_toArray, List.set_cons_zero, List.set_cons_succ, i64_w, i32_w]
  rfl
 refine pure_ (i := 12) (N := some 3) (v := ?_) (a' := ?_) #[true, true, true, true, true, true, true, true, true, true, true, true, true] rfl rfl (by kernel_rfl) (fun _ _ _ h => h) (Or.inl ⟨by rfl, ?_⟩) ?_ ?_
 rotate_left
 ·intro w'
  go_simp
  with_reducible rfl
 rotate_left
 ·simp only [Act.put, List.setIfInBounds_toArray, List.set_cons_zero, List.set_cons_succ, i64_w, i32_w]
  rfl
 refine done_ (by kernel_rfl) ?_
 go_wp2_with fail
 refine start_ (n := 12) (S := fun w' => w'.cell? ⟨g, 0, none⟩ = some (.slice Au U.length cu) ∧ w'.cell? ⟨g, 1, none⟩ = some (.slice Ar R.length cr)) (ds := []) #[false, false, false, false, false, false, false, false, false, false, false, false] (by kernel_rfl) rfl rfl ⟨(blk_cell (blk_below BK.out HB3.out) 0).trans rfl, (blk_cell (blk_below BK.out HB3.out) 1).trans rfl⟩ (fun hHeld => ?_)
 generalize w2.drew = w3 at HO2 HB3 hHeld ⊢
 refine pure_ (i := 0) (N := some 22) (v := ?_) (a' := ?_) #[true, false, false, false, false, false, false, false, false, false, false, false] rfl rfl (by kernel_rfl) (fun _ _ _ h => h) (Or.inl ⟨by rfl, ?_⟩) ?_ ?_
 rotate_left
 ·intro w'
  go_simp
  with_reducible rfl
 rotate_left
 ·simp only [Act.put, List.setIfInBounds_toArray, List.set_cons_zero, List.set_cons_succ, i64_w, i32_w]
  rfl
 refine pure_ (i := 1) (N := some 23) (v := ?_) (a' := ?_) #[true, true, false, false, false, false, false, false, false, false, false, false] rfl rfl (by kernel_rfl) (fun _ _ _ h => h) (Or.inl ⟨by rfl, ?_⟩) ?_ ?_
 rotate_left
 ·intro w'
  go_simp
  with_reducible rfl
 rotate_left
 ·simp only [Act.put, List.setIfInBounds_toArray, List.set_cons_zero, List.set_cons_succ, i64_w, i32_w]
  rfl
 refine pure_ (i := 2) (N := some 24) (v := ?_) (a' := ?_) #[true, true, true, false, false, false, false, false, false, false, false, false] rfl rfl (by kernel_rfl) (fun _ _ _ h => h) (Or.inl ⟨by rfl, ?_⟩) ?_ ?_
 rotate_left
 ·intro w'
  go_simp
  with_reducible rfl
 rotate_left
 ·simp only [Act.put, List.setIfInBounds_toArray, List.set_cons_zero, List.set_cons_succ, i64_w, i32_w]
  rfl
 refine pure_ (i := 4) (N := some 26) (v := ?_) (a' := ?_) #[true, true, true, false, true, false, false, false, false, false, false, false] rfl rfl (by kernel_rfl) (fun _ _ _ h => h) (Or.inl ⟨by rfl, ?_⟩) ?_ ?_
 rotate_left
 ·intro w'
  go_simp
  with_reducible rfl
 rotate_left
 ·simp only [Act.put, List.setIfInBounds_toArray, List.set_cons_zero, List.set_cons_succ, i64_w, i32_w]
  rfl
 refine pure_ (i := 5) (N := some 27) (v := ?_) (a' := ?_) #[true, true, true, false, true, true, false, false, false, false, false, false] rfl rfl (by kernel_rfl) (fun _ _ _ h => h) (Or.inl ⟨by rfl, ?_⟩) ?_ ?_
 rotate_left
 ·intro w'
  go_simp
  with_reducible rfl
 rotate_left
 ·simp only [Act.put, List.setIfInBounds_toArray, List.set_cons_zero, List.set_cons_succ, i64_w, i32_w]
  rfl
 refine pure_ (i := 6) (N := some 28) (v := ?_) (a' := ?_) #[true, true, true, false, true, true, true, false, false, false, false, false] rfl rfl (by kernel_rfl) (fun _ _ _ h => h) (Or.inl ⟨by rfl, ?_⟩) ?_ ?_
 rotate_left
 ·intro w'
  go_simp
  with_reducible rfl
 rotate_left
 ·simp only [Act.put, List.setIfInBounds_toArray, List.set_cons_zero, List.set_cons_succ, i64_w, i32_w]
  rfl
 refine pure_ (i := 11) (N := some 33) (v := ?_) (a' := ?_) #[true, true, true, false, true, true, true, false, false, false, false, true] rfl rfl (by kernel_rfl) (fun _ _ _ h => h) (Or.inl ⟨by rfl, ?_⟩) ?_ ?_
 rotate_left
 ·intro w'
  go_simp
  with_reducible rfl
 rotate_left
 ·simp only [Act.put, List.setIfInBounds_toArray, List.set_cons_zero, List.set_cons_succ, i64_w, i32_w]
  rfl
 refine take_ (i := 3) (N := some 25) (v := ?_) (a' := ?_) #[true, true, true, true, true, true, true, false, false, false, false, true] rfl rfl (by kernel_rfl) (fun _ _ _ h => h) (Or.inl ⟨by rfl, ?_⟩) hHeld ?_ ?_
 rotate_left
 ·rintro w' ⟨s0, s1⟩
  go_simp
  with_reducible rfl
 rotate_left
 ·simp only [Act.put, List.setIfInBounds_toArray, List.set_cons_zero, List.set_cons_succ, i64_w, i32_w]
  rfl
 refine take_ (i := 7) (N := some 29) (v := ?_) (a' := ?_) #[true, true, true, true, true, true, true, true, false, false, false, true] rfl rfl (by kernel_rfl) (fun _ _ _ h => h) (Or.inl ⟨by rfl, ?_⟩) hHeld ?_ ?_
 rotate_left
 ·rintro w' ⟨s0, s1⟩
  go_simp
  with_reducible rfl
 rotate_left
 ·simp only [Act.put, List.setIfInBounds_toArray, List.set_cons_zero, List.set_cons_succ, i64_w, i32_w]
  rfl
 refine one_ (i := 8) (N := some 30) #[true, true, true, true, true, true, true, true, true, false, false, true] rfl rfl (by kernel_rfl) (by decide) (fun K hK => ?_)
 refine value_ (w1 := ?_) (v := ?_) (by rfl) rfl ?_ ?_
 rotate_left 2
 ·go_simp
  constructor
  ·rfl
  ·rfl
 refine hK.out _ _ ⟨(blk_cell (blk_below BK.out (HB3.out.alloc HB3.out.size _)) 0).trans rfl, (blk_cell (blk_below BK.out (HB3.out.alloc HB3.out.size _)) 1).trans rfl⟩ (fun hHeld => ?_)
 clear hK K
 refine norm_ (a' := ?_) ?_ ?_
 rotate_left
 ·show Act.put _ (some 30) _ = _
  simp only [Act.put, List.setIfInBounds_toArray, List.set_cons_zero, List.set_cons_succ, i64_w, i32_w]
  rfl
 refine one_ (i := 9) (N := some 31) #[true, true, true, true, true, true, true, true, true, true, false, true] rfl rfl (by kernel_rfl) (by decide) (fun K hK => ?_)
 refine goes_ Try.func36 (by kernel_rfl) rfl #[.slice (some ⟨w3.heap.size, 0, none⟩) 2 2] (by rfl) rfl rfl (by simp only [List.map_toArray, List.map_cons, List.map_nil]; rfl) ?_
 with_reducible refine (concat_two w (some ⟨w3.heap.size, 0, none⟩) U R UR _ (C_two (d := Kd.fixed kS w) (blk_new w3 _) HLU.out HLR.out (C_fx HCU.out (HB3.out.alloc HB3.out.size _)) (C_fx HCR.out (HB3.out.alloc HB3.out.size _))) HUR.out (by omega)).mono ?_
 rintro e w4 ⟨v4, rfl, ho4, hb4⟩
 obtain ⟨A4, c4, rfl⟩ := Kd.R_slice ho4
 have HO4 := Aside0.mk ho4
 have HB4 := Aside0.mk ((HB3.out.alloc HB3.out.size _).trans (hb4.mono (by have := HB3.out.size; simp; omega)))
 have HBB := Aside0.mk (Kd.R_below (Kd.R_alloc HO2.out _) hb4)
 clear ho4 hb4
 refine ⟨_, rfl, ?_⟩
 refine hK.out _ _ ⟨(blk_cell (blk_below BK.out HB4.out) 0).trans rfl, (blk_cell (blk_below BK.out HB4.out) 1).trans rfl⟩ (fun hHeld => ?_)
 clear hK K
 refine norm_ (a' := ?_) ?_ ?_
 rotate_left
 ·show Act.put _ (some 31) _ = _
  simp only [Act.put, List.setIfInBounds_toArray, List.set_cons_zero, List.set_cons_succ, i64_w, i32_w]
  rfl
 refine pure_ (i := 10) (N := some 32) (v := ?_) (a' := ?_) #[true, true, true, true, true, true, true, true, true, true, true, true] rfl rfl (by kernel_rfl) (fun _ _ _ h => h) (Or.inl ⟨by rfl, ?_⟩) ?_ ?_
 rotate_left
 ·intro w'
  go_simp
  with_reducible rfl
 rotate_left
 ·simp only [Act.put, List.setIfInBounds_toArray, List.set_cons_zero, List.set_cons_succ, i64_w, i32_w]
  rfl
 refine done_ (by kernel_rfl) ?_
 go_wp2_with fail
 go_loopw [3, 33] (fun b i wr => ∃ (x : Int) (bs : List Int), i = .int .i64 x ∧ 0 ≤ x ∧ x ≤ UR.length ∧ Aside0 (Kd.R (Kd.int .u8) 5 wr w.heap.size (fun k_ => w.heap.size ≤ k_) b bs) ∧ Aside0 (Below w.heap.size w wr) ∧ Aside0 (Kd.R (Kd.fixed kS w) 35 wr w.heap.size (fun _ => True) (.slice A4 UR.length c4) UR) ∧ Aside0 (stack_encS k bs (UR.drop x.toNat) = some r)) (fun _ i _ => UR.length - (intOf i).toNat)
 case atStart => exact ⟨0, b2, rfl, Int.le_refl _, by omega, HBB, HB4, ⟨Kd.R_lower HO4.out (by have := HB3.out.size; simp; omega)⟩, ⟨F3.out⟩⟩
 case round =>
  obtain ⟨x, bs, rfl, hx0, hxl, HO, HB, HRW, HG⟩ := hrel
  obtain ⟨Ab, cb, rfl⟩ := Kd.R_slice HO.out
  by_cases hlt : x < (UR.length : Int)
  ·obtain ⟨ad, Ax, cx, rfl, q0, hcx, hCx⟩ := at_F (Kd.R_reads' HRW.out).2.2 x hx0 hlt
   have hgo := HG.out
   have hl : x.toNat < UR.length := by omega
   have hxm := HXL.out UR[x.toNat] (List.getElem_mem hl)
   rw [List.drop_eq_getElem_cons hl] at hgo
   have hy1 : rd_L3 UR x = UR[x.toNat] := by unfold rd_L3; simp [hl]
   rw [← hy1] at hgo hxm
   obtain ⟨y, hy⟩ : ∃ y, rd_L3 UR x = y := ⟨_, rfl⟩
   rw [hy] at q0 hcx hCx hgo hxm
   simp only [stack_encS] at hgo
   obtain ⟨b3, g1, hgo⟩ := Option.bind_eq_some_iff.1 hgo
   obtain ⟨b4, g2, hgo⟩ := Option.bind_eq_some_iff.1 hgo
   have G1 := Aside0.mk g1
   have G2 := Aside0.mk g2
   have G3 := Aside0.mk hgo
   have HCX := Aside0.mk hCx
   have HLX := Aside0.mk hcx
   clear g1 g2 hgo hy hy1 hl HG hCx hcx
   go_wp2_with fail
   refine (put_any k (.slice Ab bs.length cb) bs _ b3 w _ HB.out HO.out G1.out).mono ?_
   rintro e w5 ⟨v5, rfl, ho5, hb5, hk5⟩
   have HO5 := Aside0.mk ho5
   have HB5 := Aside0.mk hb5
   have HR5 := Aside0.mk (row_kept HRW.out hk5 HO.out)
   clear ho5 hb5 hk5 HO HB HRW q0
   go_wp2_with fail
   go_loopw [3, 43] (fun b i wi => ∃ (z : Int) (bs : List Int), i = .int .i64 z ∧ 0 ≤ z ∧ z ≤ y.length ∧ Aside0 (Kd.R (Kd.int .u8) 5 wi w.heap.size (fun k_ => w.heap.size ≤ k_) b bs) ∧ Aside0 (Below w.heap.size w wi) ∧ Aside0 (Kd.R (Kd.fixed kS w) 35 wi w.heap.size (fun _ => True) (.slice (some ad) UR.length c4) UR) ∧ Aside0 (stack_encC k bs (y.drop z.toNat) = some b4)) (fun _ i _ => y.length - (intOf i).toNat)
   case atStart => exact ⟨0, b3, rfl, Int.le_refl _, by omega, HO5, HB5, HR5, G2⟩
   case round =>
    clear HO5 HB5 HR5 G2
    obtain ⟨z, bs, rfl, hz0, hzl, HO, HB, HRW, HG⟩ := hrel
    obtain ⟨Ab, cb, rfl⟩ := Kd.R_slice HO.out
    by_cases hlz : z < (y.length : Int)
    ·obtain ⟨ax, rfl, q0, q1, q2, q3, q4⟩ := at_T56 HCX.out z hz0 hlz
     replace q0 := (HB.out.cell (World.block_lt_of_cell? w _ q0)).trans q0
     replace q1 := (HB.out.cell (World.block_lt_of_cell? w _ q1)).trans q1
     replace q2 := (HB.out.cell (World.block_lt_of_cell? w _ q2)).trans q2
     replace q3 := (HB.out.cell (World.block_lt_of_cell? w _ q3)).trans q3
     replace q4 := (HB.out.cell (World.block_lt_of_cell? w _ q4)).trans q4
     have hgo := HG.out
     have hl : z.toNat < y.length := by omega
     rw [List.drop_eq_getElem_cons hl] at hgo
     have hy1 : rd_T56 y z = y[z.toNat] := by unfold rd_T56; simp [hl]
     rw [← hy1] at hgo
     obtain ⟨t, ht⟩ : ∃ t, rd_T56 y z = t := ⟨_, rfl⟩
     rw [ht] at q0 q1 q2 q3 q4 hgo
     simp only [stack_encC] at hgo
     obtain ⟨d1, g1, hgo⟩ := Option.bind_eq_some_iff.1 hgo
     obtain ⟨d2, g2, hgo⟩ := Option.bind_eq_some_iff.1 hgo
     obtain ⟨d3, g3, hgo⟩ := Option.bind_eq_some_iff.1 hgo
     obtain ⟨d4, g4, hgo⟩ := Option.bind_eq_some_iff.1 hgo
     obtain ⟨d5, g5, hgo⟩ := Option.bind_eq_some_iff.1 hgo
     have D1 := Aside0.mk g1
     have D2 := Aside0.mk g2
     have D3 := Aside0.mk g3
     have D4 := Aside0.mk g4
     have D5 := Aside0.mk g5
     have D6 := Aside0.mk hgo
     clear g1 g2 g3 g4 g5 hgo ht hy1 hl HG
     obtain ⟨wo, rfl⟩ : ∃ wo : World, wo = wr := ⟨_, rfl⟩
     have BE := Aside0.mk (blk_drew (blk_new wo (.cells #[.string t.f0, .bool t.f1, .bool t.f2, .string t.f3, .string t.f4] 56)))
     have HOA := Aside0.mk (Kd.R_drew (Kd.R_alloc HO.out (.cells #[.string t.f0, .bool t.f1, .bool t.f2, .string t.f3, .string t.f4] 56)))
     have HBA := Aside0.mk (below_drew1 (HB.out.alloc HB.out.size (.cells #[.string t.f0, .bool t.f1, .bool t.f2, .string t.f3, .string t.f4] 56)))
     have HRA := Aside0.mk (Kd.R_drew (Kd.R_alloc HRW.out (.cells #[.string t.f0, .bool t.f1, .bool t.f2, .string t.f3, .string t.f4] 56)))
     clear HO HB HRW
     go_wp2_with fail
     refine start_ (n := 11) (S := fun w' => w'.cell? ⟨wo.heap.size, 0, none⟩ = some (.string t.f0) ∧ w'.cell? ⟨wo.heap.size, 1, none⟩ = some (.bool t.f1) ∧ w'.cell? ⟨wo.heap.size, 2, none⟩ = some (.bool t.f2)) (ds := []) #[false, false, false, false, false, false, false, false, false, false, false] (by kernel_rfl) rfl rfl ⟨(blk_cell BE.out 0).trans rfl, (blk_cell BE.out 1).trans rfl, (blk_cell BE.out 2).trans rfl⟩ (fun hHeld => ?_)
     refine pure_ (i := 0) (N := some 47) (v := ?_) (a' := ?_) #[true, false, false, false, false, false, false, false, false, false, false] rfl rfl (by kernel_rfl) (fun _ _ _ h => h) (Or.inl ⟨by rfl, ?_⟩) ?_ ?_
     rotate_left
     ·intro w'
      go_simp
      with_reducible rfl
     rotate_left
     ·simp only [Act.put, List.setIfInBounds_toArray, List.set_cons_zero, List.set_cons_succ, i64_w, i32_w]
      rfl
     refine pure_ (i := 1) (N := some 48) (v := ?_) (a' := ?_) #[true, true, false, false, false, false, false, false, false, false, false] rfl rfl (by kernel_rfl) (fun _ _ _ h => h) (Or.inl ⟨by rfl, ?_⟩) ?_ ?_
     rotate_left
     ·intro w'
      go_simp
      with_reducible rfl
     rotate_left
     ·simp only [Act.put, List.setIfInBounds_toArray, List.set_cons_zero, List.set_cons_succ, i64_w, i32_w]
      rfl
     refine pure_ (i := 4) (N := some 51) (v := ?_) (a' := ?_) #[true, true, false, false, true, false, false, false, false, false, false] rfl rfl (by kernel_rfl) (fun _ _ _ h => h) (Or.inl ⟨by rfl, ?_⟩) ?_ ?_
     rotate_left
     ·intro w'
      go_simp
      with_reducible rfl
     rotate_left
     ·simp only [Act.put, List.setIfInBounds_toArray, List.set_cons_zero, List.set_cons_succ, i64_w, i32_w]
      rfl
     refine pure_ (i := 7) (N := some 54) (v := ?_) (a' := ?_) #[true, true, false, false, true, false, false, true, false, false, false] rfl rfl (by kernel_rfl) (fun _ _ _ h => h) (Or.inl ⟨by rfl, ?_⟩) ?_ ?_
     rotate_left
     ·intro w'
      go_simp
      with_reducible rfl
     rotate_left
     ·simp only [Act.put, List.setIfInBounds_toArray, List.set_cons_zero, List.set_cons_succ, i64_w, i32_w]
      rfl
     refine take_ (i := 2) (N := some 49) (v := ?_) (a' := ?_) #[true, true, true, false, true, false, false, true, false, false, false] rfl rfl (by kernel_rfl) (fun _ _ _ h => h) (Or.inl ⟨by rfl, ?_⟩) hHeld ?_ ?_
     rotate_left
     ·rintro w' ⟨s0, s1, s2⟩
      go_simp
      with_reducible rfl
     rotate_left
     ·simp only [Act.put, List.setIfInBounds_toArray, List.set_cons_zero, List.set_cons_succ, i64_w, i32_w]
      rfl
     refine take_ (i := 5) (N := some 52) (v := ?_) (a' := ?_) #[true, true, true, false, true, true, false, true, false, false, false] rfl rfl (by kernel_rfl) (fun _ _ _ h => h) (Or.inl ⟨by rfl, ?_⟩) hHeld ?_ ?_
     rotate_left
     ·rintro w' ⟨s0, s1, s2⟩
      go_simp
      with_reducible rfl
     rotate_left
     ·simp only [Act.put, List.setIfInBounds_toArray, List.set_cons_zero, List.set_cons_succ, i64_w, i32_w]
      rfl
     refine take_ (i := 8) (N := some 55) (v := ?_) (a' := ?_) #[true, true, true, false, true, true, false, true, true, false, false] rfl rfl (by kernel_rfl) (fun _ _ _ h => h) (Or.inl ⟨by rfl, ?_⟩) hHeld ?_ ?_
     rotate_left
     ·rintro w' ⟨s0, s1, s2⟩
      go_simp
      with_reducible rfl
     rotate_left
     ·simp only [Act.put, List.setIfInBounds_toArray, List.set_cons_zero, List.set_cons_succ, i64_w, i32_w]
      rfl
     refine one_ (i := 3) (N := some 50) #[true, true, true, true, true, true, false, true, true, false, false] rfl rfl (by kernel_rfl) (by decide) (fun K hK => ?_)
     refine goes_ Try.func38 (by kernel_rfl) rfl #[.slice Ab bs.length cb, .string t.f0] (by rfl) rfl rfl (by simp only [List.map_toArray, List.map_cons, List.map_nil]; rfl) ?_
     with_reducible refine (putText_any k _ bs _ d1 w _ HBA.out HOA.out D1.out).mono ?_
     rintro e w2_ ⟨v2_, rfl, ho_, hb_, hk_⟩
     have BE2 := Aside0.mk (blk_kept BE.out hk_ (Kd.R_ne HOA.out BE.out (by decide)))
     have HR2_ := Aside0.mk (row_kept HRA.out hk_ HOA.out)
     have HO2_ := Aside0.mk ho_
     have HB2_ := Aside0.mk hb_
     clear ho_ hb_ hk_
     refine ⟨_, rfl, ?_⟩
     refine hK.out _ _ ⟨(blk_cell BE2.out 0).trans rfl, (blk_cell BE2.out 1).trans rfl, (blk_cell BE2.out 2).trans rfl⟩ (fun hHeld => ?_)
     clear hK K
     refine norm_ (a' := ?_) ?_ ?_
     rotate_left
     ·show Act.put _ (some 50) _ = _
      simp only [Act.put, List.setIfInBounds_toArray, List.set_cons_zero, List.set_cons_succ, i64_w, i32_w]
      rfl
     refine one_ (i := 6) (N := some 53) #[true, true, true, true, true, true, true, true, true, false, false] rfl rfl (by kernel_rfl) (by decide) (fun K hK => ?_)
     refine goes_ Try.func37 (by kernel_rfl) rfl #[v2_, .bool t.f1] (by rfl) rfl rfl (by simp only [List.map_toArray, List.map_cons, List.map_nil]; rfl) ?_
     with_reducible refine (flag_any k v2_ d1 _ d2 w _ HB2_.out HO2_.out D2.out).mono ?_
     rintro e w3_ ⟨v3_, rfl, ho_, hb_, hk_⟩
     have BE3 := Aside0.mk (blk_kept BE2.out hk_ (Kd.R_ne HO2_.out BE2.out (by decide)))
     have HR3_ := Aside0.mk (row_kept HR2_.out hk_ HO2_.out)
     have HO3_ := Aside0.mk ho_
     have HB3_ := Aside0.mk hb_
     clear ho_ hb_ hk_
     refine ⟨_, rfl, ?_⟩
     refine hK.out _ _ ⟨(blk_cell BE3.out 0).trans rfl, (blk_cell BE3.out 1).trans rfl, (blk_cell BE3.out 2).trans rfl⟩ (fun hHeld => ?_)
     clear hK K
     refine norm_ (a' := ?_) ?_ ?_
     rotate_left
     ·show Act.put _ (some 53) _ = _
      simp only [Act.put, List.setIfInBounds_toArray, List.set_cons_zero, List.set_cons_succ, i64_w, i32_w]
      rfl
     refine one_ (i := 9) (N := some 56) #[true, true, true, true, true, true, true, true, true, true, false] rfl rfl (by kernel_rfl) (by decide) (fun K hK => ?_)
     refine goes_ Try.func37 (by kernel_rfl) rfl #[v3_, .bool t.f2] (by rfl) rfl rfl (by simp only [List.map_toArray, List.map_cons, List.map_nil]; rfl) ?_
     with_reducible refine (flag_any k v3_ d2 _ d3 w _ HB3_.out HO3_.out D3.out).mono ?_
     rintro e w4_ ⟨v4_, rfl, ho_, hb_, hk_⟩
     have BE4 := Aside0.mk (blk_kept BE3.out hk_ (Kd.R_ne HO3_.out BE3.out (by decide)))
     have HR4_ := Aside0.mk (row_kept HR3_.out hk_ HO3_.out)
     have HO4_ := Aside0.mk ho_
     have HB4_ := Aside0.mk hb_
     clear ho_ hb_ hk_
     refine ⟨_, rfl, ?_⟩
     refine hK.out _ _ ⟨(blk_cell BE4.out 0).trans rfl, (blk_cell BE4.out 1).trans rfl, (blk_cell BE4.out 2).trans rfl⟩ (fun hHeld => ?_)
     clear hK K
     refine norm_ (a' := ?_) ?_ ?_
     rotate_left
     ·show Act.put _ (some 56) _ = _
      simp only [Act.put, List.setIfInBounds_toArray, List.set_cons_zero, List.set_cons_succ, i64_w, i32_w]
      rfl
     refine pure_ (i := 10) (N := some 3) (v := ?_) (a' := ?_) #[true, true, true, true, true, true, true, true, true, true, true] rfl rfl (by kernel_rfl) (fun _ _ _ h => h) (Or.inl ⟨by rfl, ?_⟩) ?_ ?_
     rotate_left
     ·intro w'
      go_simp
      with_reducible rfl
     rotate_left
     ·simp only [Act.put, List.setIfInBounds_toArray, List.set_cons_zero, List.set_cons_succ, i64_w, i32_w]
      rfl
     refine done_ (by kernel_rfl) ?_
     go_wp2_with fail
     have BEb := Aside0.mk (blk_drew BE4.out)
     have HOb := Aside0.mk (Kd.R_drew HO4_.out)
     have HBb := Aside0.mk (below_drew1 HB4_.out)
     have HRb := Aside0.mk (Kd.R_drew HR4_.out)
     refine start_ (n := 8) (S := fun w' => w'.cell? ⟨wo.heap.size, 3, none⟩ = some (.string t.f3) ∧ w'.cell? ⟨wo.heap.size, 4, none⟩ = some (.string t.f4)) (ds := []) #[false, false, false, false, false, false, false, false] (by kernel_rfl) rfl rfl ⟨(blk_cell BEb.out 3).trans rfl, (blk_cell BEb.out 4).trans rfl⟩ (fun hHeld => ?_)
     refine pure_ (i := 0) (N := some 57) (v := ?_) (a' := ?_) #[true, false, false, false, false, false, false, false] rfl rfl (by kernel_rfl) (fun _ _ _ h => h) (Or.inl ⟨by rfl, ?_⟩) ?_ ?_
     rotate_left
     ·intro w'
      go_simp
      with_reducible rfl
     rotate_left
     ·simp only [Act.put, List.setIfInBounds_toArray, List.set_cons_zero, List.set_cons_succ, i64_w, i32_w]
      rfl
     refine pure_ (i := 1) (N := some 58) (v := ?_) (a' := ?_) #[true, true, false, false, false, false, false, false] rfl rfl (by kernel_rfl) (fun _ _ _ h => h) (Or.inl ⟨by rfl, ?_⟩) ?_ ?_
     rotate_left
     ·intro w'
      go_simp
      with_reducible rfl
     rotate_left
     ·simp only [Act.put, List.setIfInBounds_toArray, List.set_cons_zero, List.set_cons_succ, i64_w, i32_w]
      rfl
     refine pure_ (i := 4) (N := some 61) (v := ?_) (a' := ?_) #[true, true, false, false, true, false, false, false] rfl rfl (by kernel_rfl) (fun _ _ _ h => h) (Or.inl ⟨by rfl, ?_⟩) ?_ ?_
     rotate_left
     ·intro w'
      go_simp
      with_reducible rfl
     rotate_left
     ·simp only [Act.put, List.setIfInBounds_toArray, List.set_cons_zero, List.set_cons_succ, i64_w, i32_w]
      rfl
     refine take_ (i := 2) (N := some 59) (v := ?_) (a' := ?_) #[true, true, true, false, true, false, false, false] rfl rfl (by kernel_rfl) (fun _ _ _ h => h) (Or.inl ⟨by rfl, ?_⟩) hHeld ?_ ?_
     rotate_left
     ·rintro w' ⟨s0, s1⟩
      go_simp
      with_reducible rfl
     rotate_left
     ·simp only [Act.put, List.setIfInBounds_toArray, List.set_cons_zero, List.set_cons_succ, i64_w, i32_w]
      rfl
     refine take_ (i := 5) (N := some 62) (v := ?_) (a' := ?_) #[true, true, true, false, true, true, false, false] rfl rfl (by kernel_rfl) (fun _ _ _ h => h) (Or.inl ⟨by rfl, ?_⟩) hHeld ?_ ?_
     rotate_left
     ·rintro w' ⟨s0, s1⟩
      go_simp
      with_reducible rfl
     rotate_left
     ·simp only [Act.put, List.setIfInBounds_toArray, List.set_cons_zero, List.set_cons_succ, i64_w, i32_w]
      rfl
     refine one_ (i := 3) (N := some 60) #[true, true, true, true, true, true, false, false] rfl rfl (by kernel_rfl) (by decide) (fun K hK => ?_)
     refine goes_ Try.func38 (by kernel_rfl) rfl #[v4_, .string t.f3] (by rfl) rfl rfl (by simp only [List.map_toArray, List.map_cons, List.map_nil]; rfl) ?_
     with_reducible refine (putText_any k v4_ d3 _ d4 w _ HBb.out HOb.out D4.out).mono ?_
     rintro e w5_ ⟨v5_, rfl, ho_, hb_, hk_⟩
     have BE5 := Aside0.mk (blk_kept BEb.out hk_ (Kd.R_ne HOb.out BEb.out (by decide)))
     have HR5_ := Aside0.mk (row_kept HRb.out hk_ HOb.out)
     have HO5_ := Aside0.mk ho_
     have HB5_ := Aside0.mk hb_
     clear ho_ hb_ hk_
     refine ⟨_, rfl, ?_⟩
     refine hK.out _ _ ⟨(blk_cell BE5.out 3).trans rfl, (blk_cell BE5.out 4).trans rfl⟩ (fun hHeld => ?_)
     clear hK K
     refine norm_ (a' := ?_) ?_ ?_
     rotate_left
     ·show Act.put _ (some 60) _ = _
      simp only [Act.put, List.setIfInBounds_toArray, List.set_cons_zero, List.set_cons_succ, i64_w, i32_w]
      rfl
     refine one_ (i := 6) (N := some 63) #[true, true, true, true, true, true, true, false] rfl rfl (by kernel_rfl) (by decide) (fun K hK => ?_)
     refine goes_ Try.func38 (by kernel_rfl) rfl #[v5_, .string t.f4] (by rfl) rfl rfl (by simp only [List.map_toArray, List.map_cons, List.map_nil]; rfl) ?_
     with_reducible refine (putText_any k v5_ d4 _ d5 w _ HB5_.out HO5_.out D5.out).mono ?_
     rintro e w6_ ⟨v6_, rfl, ho_, hb_, hk_⟩
     have BE6 := Aside0.mk (blk_kept BE5.out hk_ (Kd.R_ne HO5_.out BE5.out (by decide)))
     have HR6_ := Aside0.mk (row_kept HR5_.out hk_ HO5_.out)
     have HO6_ := Aside0.mk ho_
     have HB6_ := Aside0.mk hb_
     clear ho_ hb_ hk_
     refine ⟨_, rfl, ?_⟩
     refine hK.out _ _ ⟨(blk_cell BE6.out 3).trans rfl, (blk_cell BE6.out 4).trans rfl⟩ (fun hHeld => ?_)
     clear hK K
     refine norm_ (a' := ?_) ?_ ?_
     rotate_left
     ·show Act.put _ (some 63) _ = _
      simp only [Act.put, List.setIfInBounds_toArray, List.set_cons_zero, List.set_cons_succ, i64_w, i32_w]
      rfl
     refine pure_ (i := 7) (N := some 3) (v := ?_) (a' := ?_) #[true, true, true, true, true, true, true, true] rfl rfl (by kernel_rfl) (fun _ _ _ h => h) (Or.inl ⟨by rfl, ?_⟩) ?_ ?_
     rotate_left
     ·intro w'
      go_simp
      with_reducible rfl
     rotate_left
     ·simp only [Act.put, List.setIfInBounds_toArray, List.set_cons_zero, List.set_cons_succ, i64_w, i32_w]
      rfl
     refine done_ (by kernel_rfl) ?_
     go_wp2_with fail
     go_roundw
     case rel => exact ⟨z + 1, d5, rfl, by omega, by omega, HO6_, HB6_, HR6_, ⟨by rw [show (z + 1).toNat = z.toNat + 1 by omega]; exact D6.out⟩⟩
     case measure => simp [intOf]; omega
    ·have hze : z = (y.length : Int) := by omega
     have hr : bs = b4 := by
      have e := HG.out
      rw [hze, Int.toNat_natCast, List.drop_length] at e
      exact Option.some.inj e
     subst hr
     clear HG
     go_wp2_with fail
     go_roundw
     case rel => exact ⟨x + 1, bs, rfl, by omega, by omega, HO, HB, HRW, ⟨by rw [show (x + 1).toNat = x.toNat + 1 by omega]; exact G3.out⟩⟩
     case measure => simp [intOf]; omega
  ·have hxe : x = (UR.length : Int) := by omega
   have hr : bs = r := by
    have e := HG.out
    rw [hxe, Int.toNat_natCast, List.drop_length] at e
    exact Option.some.inj e
   subst hr
   clear HG
   go_wp2_with fail
   go_ret
   exact ⟨_, rfl, Kd.R_mono HO.out (fun _ _ => trivial), HB.out⟩
/-- The reader at block g: what is left to read, and whether something did not go; the bytes are read in the elder world w. -/
def Rd (w W : World) (g : Nat) (l : List Int) (bad : Bool) : Prop := Below w.heap.size w W ∧ w.heap.size ≤ g ∧ ∃ A c, W.heap[g]? = some (.cells #[.slice A l.length c, .bool bad] 75 (0, 0)) ∧ l.length ≤ c ∧ Kd.C (Kd.int .u8) w A l.length l
def rnum (k : Nat) (most : Int) (l : List Int) (bad : Bool) : Option (Int × List Int × Bool) := (num_Get.f k l).bind fun z => if z.2.2 = 0 ∧ 0 ≤ z.1 ∧ z.1 ≤ most then (if 0 ≤ z.2.1 ∧ z.2.1 ≤ (l.length : Int) then some (z.1, l.drop z.2.1.toNat, bad) else none) else some (0, l, true)
def rtext (k : Nat) (l : List Int) (bad : Bool) : Option (ByteArray × List Int × Bool) := (num_GetText.f k l).bind fun z => if z.2.2 = 0 then (if 0 ≤ z.2.1 ∧ z.2.1 ≤ (l.length : Int) then some (z.1, l.drop z.2.1.toNat, bad) else none) else some (⟨#[]⟩, l, true)
set_option maxHeartbeats 400000 in
set_option maxRecDepth 100000 in
theorem rnum_bad (k : Nat) (most : Int) (w W : World) (g : Nat) (l : List Int) (bad : Bool) (n : Int) (y e : Int) (h : Rd w W g l bad) (h1 : num_Get.f k l = some (n, y, e)) (hb_ : ¬ (e = 0 ∧ 0 ≤ n ∧ n ≤ most)) :
  Calls Try.prog 39 #[.pointer (some ⟨g, 0, none⟩), .int .i64 most] W fun e W' => e = .returned (.int .i64 0) ∧ Rd w W' g l true ∧ Below w.heap.size W W' ∧ Kept W W' (fun k => k = g) := by
 obtain ⟨hB, hg, A, c, hb, hc, hC⟩ := h
 have c0 : W.cell? ⟨g, 0, none⟩ = some (.slice A l.length c) := (blk_cell hb 0).trans rfl
 have c1 : W.cell? ⟨g, 1, none⟩ = some (.bool bad) := (blk_cell hb 1).trans rfl
 have o0 := blk_frozen hb 0
 have o1 := blk_frozen hb 1
 have BK := Aside0.mk hb
 have HC := Aside0.mk hC
 have HB := Aside0.mk hB
 have HLC := Aside0.mk hc
 have H1 := Aside0.mk h1
 clear h1 hc
 have hB1 := Aside0.mk hb_
 clear hb_
 by_cases he : e = 0
 ·subst he
  by_cases hn : n < 0
  ·clear hB1
   go_enter Try.func39, Try.ntmps39
   go_wp2_with (go_at_call 48; refine (num_Get.calls k A c l n y _ _ (Kd.C_below HC.out HB.out) HLC.out H1.out).mono ?_; rintro e' w1 ⟨rfl, ⟨n1, rfl⟩⟩)
   go_ret
   exact ⟨rfl, ⟨(below_set (pw_below_drewN HB.out n1) hg), hg, A, c, blk_put (blk_drewN BK.out n1) 1 (.bool true) rfl, HLC.out, HC.out⟩, (pw_below_drewN (Below.refl _ _) n1).setCell (p := ⟨g, 1, none⟩) hg _, Kept.setCell (p := ⟨g, 1, none⟩) (Kept.drewN (Kept.refl W (fun k => k = g)) n1) (.inl rfl) _⟩
  ·have h32 : most < n := by have := hB1.out; omega
   clear hB1
   go_enter Try.func39, Try.ntmps39
   go_wp2_with (go_at_call 48; refine (num_Get.calls k A c l n y _ _ (Kd.C_below HC.out HB.out) HLC.out H1.out).mono ?_; rintro e' w1 ⟨rfl, ⟨n1, rfl⟩⟩)
   go_ret
   exact ⟨rfl, ⟨(below_set (pw_below_drewN HB.out n1) hg), hg, A, c, blk_put (blk_drewN BK.out n1) 1 (.bool true) rfl, HLC.out, HC.out⟩, (pw_below_drewN (Below.refl _ _) n1).setCell (p := ⟨g, 1, none⟩) hg _, Kept.setCell (p := ⟨g, 1, none⟩) (Kept.drewN (Kept.refl W (fun k => k = g)) n1) (.inl rfl) _⟩
 ·have t1 : (e == 0) = false := by simpa using he
  have t2 : (e != 0) = true := by simpa using he
  clear he hB1
  go_enter Try.func39, Try.ntmps39
  go_wp2_with (go_at_call 48; refine (num_Get.calls k A c l n y _ _ (Kd.C_below HC.out HB.out) HLC.out H1.out).mono ?_; rintro e' w1 ⟨rfl, ⟨n1, rfl⟩⟩)
  go_ret
  exact ⟨rfl, ⟨(below_set (pw_below_drewN HB.out n1) hg), hg, A, c, blk_put (blk_drewN BK.out n1) 1 (.bool true) rfl, HLC.out, HC.out⟩, (pw_below_drewN (Below.refl _ _) n1).setCell (p := ⟨g, 1, none⟩) hg _, Kept.setCell (p := ⟨g, 1, none⟩) (Kept.drewN (Kept.refl W (fun k => k = g)) n1) (.inl rfl) _⟩
set_option maxHeartbeats 400000 in
set_option maxRecDepth 100000 in
theorem rnum_good (k : Nat) (most : Int) (w W : World) (g : Nat) (l : List Int) (bad : Bool) (n : Int) (y : Int) (h : Rd w W g l bad) (h1 : num_Get.f k l = some (n, y, 0)) (y0 : 0 ≤ y) (yl : y ≤ (l.length : Int)) (n0 : 0 ≤ n) (n1 : n ≤ most) :
  Calls Try.prog 39 #[.pointer (some ⟨g, 0, none⟩), .int .i64 most] W fun e W' => e = .returned (.int .i64 n) ∧ Rd w W' g (l.drop y.toNat) bad ∧ Below w.heap.size W W' ∧ Kept W W' (fun k => k = g) := by
 obtain ⟨hB, hg, A, c, hb, hc, hC⟩ := h
 have c0 : W.cell? ⟨g, 0, none⟩ = some (.slice A l.length c) := (blk_cell hb 0).trans rfl
 have c1 : W.cell? ⟨g, 1, none⟩ = some (.bool bad) := (blk_cell hb 1).trans rfl
 have o0 := blk_frozen hb 0
 have o1 := blk_frozen hb 1
 have BK := Aside0.mk hb
 have HC := Aside0.mk hC
 have HB := Aside0.mk hB
 have HLC := Aside0.mk hc
 have H1 := Aside0.mk h1
 clear h1
 by_cases hcy : c = y.toNat
 ·have hd := Kd.C_drop (m := y.toNat) (c := c) hC (by omega) hc
  rw [if_pos hcy] at hd
  have HD := Aside0.mk hd
  subst hcy
  clear hc hd hC hB
  go_enter Try.func39, Try.ntmps39
  go_wp2_with (go_at_call 48; refine (num_Get.calls k A _ l n y 0 _ (Kd.C_below HC.out HB.out) HLC.out H1.out).mono ?_; rintro e' w1 ⟨rfl, ⟨n1, rfl⟩⟩)
  go_ret
  refine ⟨rfl, ⟨(below_set (pw_below_drewN HB.out n1) hg), hg, A, 0, ?_, by rw [List.length_drop]; have := HLC.out; omega, HD.out⟩, (pw_below_drewN (Below.refl _ _) n1).setCell (p := ⟨g, 0, none⟩) hg _, Kept.setCell (p := ⟨g, 0, none⟩) (Kept.drewN (Kept.refl W (fun k => k = g)) n1) (.inl rfl) _⟩
  rw [List.length_drop]
  exact blk_put (blk_drewN BK.out n1) 0 _ rfl
 ·have hd := Kd.C_drop (m := y.toNat) (c := c) hC (by omega) hc
  rw [if_neg hcy] at hd
  have e1 : (fun x : Addr => x.add (y.toNat * (Kd.int .u8).sz)) = fun x : Addr => x.add y.toNat := by funext x; rw [show (Kd.int .u8).sz = 1 from rfl, Nat.mul_one]
  rw [e1] at hd
  have HD := Aside0.mk hd
  clear hc hd hC hB e1
  go_enter Try.func39, Try.ntmps39
  go_wp2_with (go_at_call 48; refine (num_Get.calls k A c l n y 0 _ (Kd.C_below HC.out HB.out) HLC.out H1.out).mono ?_; rintro e' w1 ⟨rfl, ⟨n1, rfl⟩⟩)
  go_ret
  refine ⟨rfl, ⟨(below_set (pw_below_drewN HB.out n1) hg), hg, Option.map (fun x => x.add y.toNat) A, c - y.toNat, ?_, by rw [List.length_drop]; have := HLC.out; omega, HD.out⟩, (pw_below_drewN (Below.refl _ _) n1).setCell (p := ⟨g, 0, none⟩) hg _, Kept.setCell (p := ⟨g, 0, none⟩) (Kept.drewN (Kept.refl W (fun k => k = g)) n1) (.inl rfl) _⟩
  rw [List.length_drop]
  exact blk_put (blk_drewN BK.out n1) 0 _ rfl
set_option maxHeartbeats 400000 in
set_option maxRecDepth 100000 in
theorem rtext_bad (k : Nat) (w W : World) (g : Nat) (l : List Int) (bad : Bool) (n : ByteArray) (y e : Int) (h : Rd w W g l bad) (h1 : num_GetText.f k l = some (n, y, e)) (hb_ : ¬ e = 0) :
  Calls Try.prog 49 #[.pointer (some ⟨g, 0, none⟩)] W fun e W' => e = .returned (.string ⟨#[]⟩) ∧ Rd w W' g l true ∧ Below w.heap.size W W' ∧ Kept W W' (fun k => k = g) := by
 obtain ⟨hB, hg, A, c, hb, hc, hC⟩ := h
 have c0 : W.cell? ⟨g, 0, none⟩ = some (.slice A l.length c) := (blk_cell hb 0).trans rfl
 have c1 : W.cell? ⟨g, 1, none⟩ = some (.bool bad) := (blk_cell hb 1).trans rfl
 have o0 := blk_frozen hb 0
 have o1 := blk_frozen hb 1
 have BK := Aside0.mk hb
 have HC := Aside0.mk hC
 have HB := Aside0.mk hB
 have HLC := Aside0.mk hc
 have H1 := Aside0.mk h1
 clear h1 hc
 ·have t1 : (e == 0) = false := by simpa using hb_
  have t2 : (e != 0) = true := by simpa using hb_
  clear hb_
  go_enter Try.func49, Try.ntmps49
  go_wp2_with (go_at_call 51; refine (num_GetText.calls k A c l n y _ _ (Kd.C_below HC.out HB.out) HLC.out H1.out).mono ?_; rintro e' w1 ⟨rfl, ⟨n1, rfl⟩⟩)
  go_ret
  exact ⟨rfl, ⟨(below_set (pw_below_drewN HB.out n1) hg), hg, A, c, blk_put (blk_drewN BK.out n1) 1 (.bool true) rfl, HLC.out, HC.out⟩, (pw_below_drewN (Below.refl _ _) n1).setCell (p := ⟨g, 1, none⟩) hg _, Kept.setCell (p := ⟨g, 1, none⟩) (Kept.drewN (Kept.refl W (fun k => k = g)) n1) (.inl rfl) _⟩
set_option maxHeartbeats 400000 in
set_option maxRecDepth 100000 in
theorem rtext_good (k : Nat) (w W : World) (g : Nat) (l : List Int) (bad : Bool) (n : ByteArray) (y : Int) (h : Rd w W g l bad) (h1 : num_GetText.f k l = some (n, y, 0)) (y0 : 0 ≤ y) (yl : y ≤ (l.length : Int)) :
  Calls Try.prog 49 #[.pointer (some ⟨g, 0, none⟩)] W fun e W' => e = .returned (.string n) ∧ Rd w W' g (l.drop y.toNat) bad ∧ Below w.heap.size W W' ∧ Kept W W' (fun k => k = g) := by
 obtain ⟨hB, hg, A, c, hb, hc, hC⟩ := h
 have c0 : W.cell? ⟨g, 0, none⟩ = some (.slice A l.length c) := (blk_cell hb 0).trans rfl
 have c1 : W.cell? ⟨g, 1, none⟩ = some (.bool bad) := (blk_cell hb 1).trans rfl
 have o0 := blk_frozen hb 0
 have o1 := blk_frozen hb 1
 have BK := Aside0.mk hb
 have HC := Aside0.mk hC
 have HB := Aside0.mk hB
 have HLC := Aside0.mk hc
 have H1 := Aside0.mk h1
 clear h1
 by_cases hcy : c = y.toNat
 ·have hd := Kd.C_drop (m := y.toNat) (c := c) hC (by omega) hc
  rw [if_pos hcy] at hd
  have HD := Aside0.mk hd
  subst hcy
  clear hc hd hC hB
  go_enter Try.func49, Try.ntmps49
  go_wp2_with (go_at_call 51; refine (num_GetText.calls k A _ l n y 0 _ (Kd.C_below HC.out HB.out) HLC.out H1.out).mono ?_; rintro e' w1 ⟨rfl, ⟨n1, rfl⟩⟩)
  go_ret
  refine ⟨rfl, ⟨(below_set (pw_below_drewN HB.out n1) hg), hg, A, 0, ?_, by rw [List.length_drop]; have := HLC.out; omega, HD.out⟩, (pw_below_drewN (Below.refl _ _) n1).setCell (p := ⟨g, 0, none⟩) hg _, Kept.setCell (p := ⟨g, 0, none⟩) (Kept.drewN (Kept.refl W (fun k => k = g)) n1) (.inl rfl) _⟩
  rw [List.length_drop]
  exact blk_put (blk_drewN BK.out n1) 0 _ rfl
 ·have hd := Kd.C_drop (m := y.toNat) (c := c) hC (by omega) hc
  rw [if_neg hcy] at hd
  have e1 : (fun x : Addr => x.add (y.toNat * (Kd.int .u8).sz)) = fun x : Addr => x.add y.toNat := by funext x; rw [show (Kd.int .u8).sz = 1 from rfl, Nat.mul_one]
  rw [e1] at hd
  have HD := Aside0.mk hd
  clear hc hd hC hB e1
  go_enter Try.func49, Try.ntmps49
  go_wp2_with (go_at_call 51; refine (num_GetText.calls k A c l n y 0 _ (Kd.C_below HC.out HB.out) HLC.out H1.out).mono ?_; rintro e' w1 ⟨rfl, ⟨n1, rfl⟩⟩)
  go_ret
  refine ⟨rfl, ⟨(below_set (pw_below_drewN HB.out n1) hg), hg, Option.map (fun x => x.add y.toNat) A, c - y.toNat, ?_, by rw [List.length_drop]; have := HLC.out; omega, HD.out⟩, (pw_below_drewN (Below.refl _ _) n1).setCell (p := ⟨g, 0, none⟩) hg _, Kept.setCell (p := ⟨g, 0, none⟩) (Kept.drewN (Kept.refl W (fun k => k = g)) n1) (.inl rfl) _⟩
  rw [List.length_drop]
  exact blk_put (blk_drewN BK.out n1) 0 _ rfl
theorem rnum_any (k : Nat) (most : Int) (w W : World) (g : Nat) (l l' : List Int) (bad bad' : Bool) (n : Int) (h : Rd w W g l bad) (h1 : rnum k most l bad = some (n, l', bad')) :
  Calls Try.prog 39 #[.pointer (some ⟨g, 0, none⟩), .int .i64 most] W fun e W' => e = .returned (.int .i64 n) ∧ Rd w W' g l' bad' ∧ Below w.heap.size W W' ∧ Kept W W' (fun k => k = g) := by
 unfold rnum at h1
 obtain ⟨⟨a, y, e⟩, g1, g2⟩ := Option.bind_eq_some_iff.1 h1
 by_cases hc : e = 0 ∧ 0 ≤ a ∧ a ≤ most
 ·rw [if_pos hc] at g2
  obtain ⟨rfl, a0, a1⟩ := hc
  by_cases hy : 0 ≤ y ∧ y ≤ (l.length : Int)
  ·rw [if_pos hy] at g2
   obtain ⟨rfl, rfl, rfl⟩ : a = n ∧ l.drop y.toNat = l' ∧ bad = bad' := by simpa using g2
   exact rnum_good k most w W g l bad a y h g1 hy.1 hy.2 a0 a1
  ·rw [if_neg hy] at g2; cases g2
 ·rw [if_neg hc] at g2
  obtain ⟨rfl, rfl, rfl⟩ : 0 = n ∧ l = l' ∧ true = bad' := by simpa using g2
  exact rnum_bad k most w W g l bad a y e h g1 hc
theorem rtext_any (k : Nat) (w W : World) (g : Nat) (l l' : List Int) (bad bad' : Bool) (n : ByteArray) (h : Rd w W g l bad) (h1 : rtext k l bad = some (n, l', bad')) :
  Calls Try.prog 49 #[.pointer (some ⟨g, 0, none⟩)] W fun e W' => e = .returned (.string n) ∧ Rd w W' g l' bad' ∧ Below w.heap.size W W' ∧ Kept W W' (fun k => k = g) := by
 unfold rtext at h1
 obtain ⟨⟨a, y, e⟩, g1, g2⟩ := Option.bind_eq_some_iff.1 h1
 by_cases hc : e = 0
 ·rw [if_pos hc] at g2
  subst hc
  by_cases hy : 0 ≤ y ∧ y ≤ (l.length : Int)
  ·rw [if_pos hy] at g2
   obtain ⟨rfl, rfl, rfl⟩ : a = n ∧ l.drop y.toNat = l' ∧ bad = bad' := by simpa using g2
   exact rtext_good k w W g l bad a y h g1 hy.1 hy.2
  ·rw [if_neg hy] at g2; cases g2
 ·rw [if_neg hc] at g2
  obtain ⟨rfl, rfl, rfl⟩ : (⟨#[]⟩ : ByteArray) = n ∧ l = l' ∧ true = bad' := by simpa using g2
  exact rtext_bad k w W g l bad a y e h g1 hc
theorem Rd.cells {w W : World} {g : Nat} {l : List Int} {bad : Bool} (h : Rd w W g l bad) : W.cell? ⟨g, 1, none⟩ = some (.bool bad) := by
 obtain ⟨_, _, A, c, hb, _⟩ := h
 exact (blk_cell hb 1).trans rfl
theorem Rd.fz {w W : World} {g : Nat} {l : List Int} {bad : Bool} (h : Rd w W g l bad) : W.frozen? ⟨g, 1, none⟩ = false := by
 obtain ⟨_, _, A, c, hb, _⟩ := h
 exact blk_frozen hb 1
theorem Rd.of_kept {w W W2 : World} {g : Nat} {l : List Int} {bad : Bool} {S : Nat → Prop} (h : Rd w W g l bad) (hB : Below w.heap.size w W2) (hk : Kept W W2 S) (hne : ¬ S g) : Rd w W2 g l bad := by
 obtain ⟨_, hg, A, c, hb, hc, hC⟩ := h
 exact ⟨hB, hg, A, c, blk_kept hb hk hne, hc, hC⟩
theorem Rd.below {w W W2 : World} {g : Nat} {l : List Int} {bad : Bool} (h : Rd w W g l bad) (hb : Below W.heap.size W W2) : Rd w W2 g l bad := h.of_kept (h.1.trans (hb.mono h.1.size)) (Kept.of_below hb (fun _ => False)) (fun hf => hf)
theorem Rd.lt {w W : World} {g : Nat} {l : List Int} {bad : Bool} (h : Rd w W g l bad) : g < W.heap.size := by
 obtain ⟨_, _, A, c, hb, _⟩ := h
 exact blk_lt hb
theorem Rd.setBad {w W : World} {g : Nat} {l : List Int} {bad : Bool} (h : Rd w W g l bad) (b : Bool) : Rd w (W.setCell ⟨g, 1, none⟩ (.bool b)) g l b := by
 obtain ⟨hB, hg, A, c, hb, hc, hC⟩ := h
 exact ⟨below_set hB hg, hg, A, c, blk_put hb 1 (.bool b) rfl, hc, hC⟩
def rchange (k : Nat) (l : List Int) (bad : Bool) : Option (S56 × List Int × Bool) := (rtext k l bad).bind fun a => (rnum k 1 a.2.1 a.2.2).bind fun b => (rnum k 1 b.2.1 b.2.2).bind fun c => (rtext k c.2.1 c.2.2).bind fun d => (rtext k d.2.1 d.2.2).bind fun e => some (⟨a.1, b.1 == 1, c.1 == 1, d.1, e.1⟩, e.2.1, e.2.2)
def rloop (k : Nat) : Nat → List Int → Bool → List S56 → Option (List S56 × List Int × Bool)
 | 0, l, bad, xs => some (xs, l, bad)
 | n + 1, l, bad, xs => if bad = true then some (xs, l, bad) else (rchange k l bad).bind fun z => rloop k n z.2.1 z.2.2 (xs ++ [z.1])
def rstep (k : Nat) (l : List Int) (bad : Bool) : Option (List S56 × List Int × Bool) := (rnum k 8 l bad).bind fun a => (rloop k a.1.toNat a.2.1 a.2.2 []).bind fun z => if z.2.2 = true then some (z.1, z.2.1, true) else (stack_May.f k z.1).bind fun ok => some (z.1, z.2.1, !ok)
theorem rloop_len {k : Nat} (n : Nat) : ∀ {l : List Int} {bad : Bool} {xs : List S56} {z : List S56 × List Int × Bool}, rloop k n l bad xs = some z → z.1.length ≤ xs.length + n := by
 induction n with
 | zero => intro l bad xs z h; simp [rloop] at h; subst h; simp
 | succ n ih =>
  intro l bad xs z h
  simp only [rloop] at h
  by_cases hb : bad = true
  ·rw [if_pos hb] at h; obtain rfl := Option.some.inj h; exact Nat.le_add_right _ _
  ·rw [if_neg hb] at h
   obtain ⟨y, _, h2⟩ := Option.bind_eq_some_iff.1 h
   have := ih h2
   simp at this
   omega
theorem rnum_le {k : Nat} {most n : Int} {l l' : List Int} {bad bad' : Bool} (hm : 0 ≤ most) (h : rnum k most l bad = some (n, l', bad')) : 0 ≤ n ∧ n ≤ most := by
 unfold rnum at h
 obtain ⟨⟨a, y, e⟩, g1, g2⟩ := Option.bind_eq_some_iff.1 h
 by_cases hc : e = 0 ∧ 0 ≤ a ∧ a ≤ most
 ·rw [if_pos hc] at g2
  by_cases hy : 0 ≤ y ∧ y ≤ (l.length : Int)
  ·rw [if_pos hy] at g2
   obtain ⟨rfl, _, _⟩ : a = n ∧ l.drop y.toNat = l' ∧ bad = bad' := by simpa using g2
   exact ⟨hc.2.1, hc.2.2⟩
  ·rw [if_neg hy] at g2; cases g2
 ·rw [if_neg hc] at g2
  obtain ⟨rfl, _, _⟩ : 0 = n ∧ l = l' ∧ true = bad' := by simpa using g2
  exact ⟨Int.le_refl _, hm⟩
theorem rstep_len {k : Nat} {l : List Int} {bad : Bool} {z : List S56 × List Int × Bool} (h : rstep k l bad = some z) : z.1.length ≤ 8 := by
 unfold rstep at h
 obtain ⟨⟨n, l1, b1⟩, g1, h⟩ := Option.bind_eq_some_iff.1 h
 obtain ⟨y, g2, h⟩ := Option.bind_eq_some_iff.1 h
 have h1 := rnum_le (by decide) g1
 have h2 := rloop_len _ g2
 simp at h2
 by_cases hb : y.2.2 = true
 ·rw [if_pos hb] at h; obtain rfl := Option.some.inj h; simp; omega
 ·rw [if_neg hb] at h
  obtain ⟨ok, _, h⟩ := Option.bind_eq_some_iff.1 h
  obtain rfl := Option.some.inj h
  simp; omega
set_option maxHeartbeats 1000000 in
set_option maxRecDepth 100000 in
theorem step_any (k : Nat) (w W : World) (g : Nat) (l : List Int) (bad : Bool) (r : List S56 × List Int × Bool) (h : Rd w W g l bad) (hf : rstep k l bad = some r) :
  Calls Try.prog 40 #[.pointer (some ⟨g, 0, none⟩)] W fun e W' => ∃ v, e = .returned v ∧ Kd.R k56 56 W' W.heap.size (fun _ => True) v r.1 ∧ Rd w W' g r.2.1 r.2.2 ∧ Kept W W' (fun k => k = g) := by
 unfold rstep at hf
 obtain ⟨⟨n, l1, b1⟩, f1, hf⟩ := Option.bind_eq_some_iff.1 hf
 obtain ⟨⟨xs, l2, b2⟩, f2, hf⟩ := Option.bind_eq_some_iff.1 hf
 have hn := rnum_le (by decide) f1
 have hn0 := hn.1
 have hn8 := hn.2
 have HH := Aside0.mk h
 have F1 := Aside0.mk f1
 have F2 := Aside0.mk f2
 have F3 := Aside0.mk hf
 clear hn h f1 f2 hf
 go_enter Try.func40, Try.ntmps40
 go_wp2_with fail
 refine (rnum_any k 8 w _ g l l1 bad b1 n HH.out F1.out).mono ?_
 rintro e w1 ⟨rfl, hr1, hb1, hk1⟩
 have H1 := Aside0.mk hr1
 have K1 := Aside0.mk hk1
 have gl := Aside0.mk HH.out.lt
 have sw := HH.out.1.size
 clear hr1 hb1 hk1 HH
 go_wp2_with fail
 go_loopw [3, 4] (fun v i wr => ∃ (z : Int) (l3 : List Int) (b3 : Bool) (ys : List S56), i = .int .i64 z ∧ 0 ≤ z ∧ z ≤ n ∧ Aside0 (ys.length + z.toNat ≤ 8) ∧ Aside0 (Kd.R k56 56 wr W.heap.size (fun k => W.heap.size ≤ k) v ys) ∧ Aside0 (Rd w wr g l3 b3) ∧ Aside0 (Kept W wr (fun k => k = g)) ∧ Aside0 (rloop k z.toNat l3 b3 ys = some (xs, l2, b2))) (fun _ i _ => (intOf i).toNat)
 case atStart => exact ⟨n, l1, b1, [], rfl, hn0, Int.le_refl _, ⟨by simp; omega⟩, ⟨Kd.R_nil _ _ _ _ _⟩, H1, K1, F2⟩
 case round =>
  clear H1 K1 F2
  obtain ⟨z, l3, b3, ys, rfl, hz0, hzn, HLN, HO, HD, HK, HG⟩ := hrel
  obtain ⟨Av, cv, rfl⟩ := Kd.R_slice HO.out
  have c1 := HD.out.cells
  have o1 := HD.out.fz
  by_cases hz : 0 < z
  ·obtain ⟨m, hm⟩ : ∃ m, z.toNat = m + 1 := ⟨z.toNat - 1, by omega⟩
   have HG2 := HG.out
   rw [hm] at HG2
   simp only [rloop] at HG2
   by_cases hb : b3 = true
   ·subst hb
    rw [if_pos rfl] at HG2
    obtain ⟨rfl, rfl, rfl⟩ : ys = xs ∧ l3 = l2 ∧ true = b2 := by simpa using HG2
    have F4 := F3.out
    rw [if_pos rfl] at F4
    obtain rfl := Option.some.inj F4
    clear HG HG2 F3 F4 hm
    go_wp2_with fail
    go_ret
    exact ⟨_, rfl, Kd.R_mono (Kd.R_far (p := ⟨g, 1, none⟩) HO.out (fun k hk => by have := gl.out; show k ≠ g; omega) _) (fun _ _ => trivial), HD.out.setBad true, Kept.setCell (p := ⟨g, 1, none⟩) HK.out (.inl rfl) _⟩
   ·obtain rfl : b3 = false := by simpa using hb
    rw [if_neg (by decide)] at HG2
    obtain ⟨⟨ch, l4, b4⟩, g1, g2⟩ := Option.bind_eq_some_iff.1 HG2
    unfold rchange at g1
    obtain ⟨⟨s0, m0, d0⟩, e0, g1⟩ := Option.bind_eq_some_iff.1 g1
    obtain ⟨⟨s1, m1, d1⟩, e1, g1⟩ := Option.bind_eq_some_iff.1 g1
    obtain ⟨⟨s2, m2, d2⟩, e2, g1⟩ := Option.bind_eq_some_iff.1 g1
    obtain ⟨⟨s3, m3, d3⟩, e3, g1⟩ := Option.bind_eq_some_iff.1 g1
    obtain ⟨⟨s4, m4, d4⟩, e4, g1⟩ := Option.bind_eq_some_iff.1 g1
    have g1' := Option.some.inj g1
    have E0 := Aside0.mk e0
    have E1 := Aside0.mk e1
    have E2 := Aside0.mk e2
    have E3 := Aside0.mk e3
    have E4 := Aside0.mk e4
    have G2 := Aside0.mk g2
    have G1 := Aside0.mk g1'
    have HM := Aside0.mk hm
    have nl := HLN.out
    clear hb HG HG2 g1 g2 g1' e0 e1 e2 e3 e4 hm
    go_wp2_with fail
    refine (rtext_any k w _ g l3 m0 false d0 s0 HD.out E0.out).mono ?_
    rintro e w2 ⟨rfl, hr2, _, hk2⟩
    have H2 := Aside0.mk hr2
    have K2 := Aside0.mk hk2
    clear hr2 hk2 c1 o1 HD
    go_wp2_with fail
    refine (rnum_any k 1 w _ g m0 m1 d0 d1 s1 H2.out E1.out).mono ?_
    rintro e w3 ⟨rfl, hr2, _, hk2⟩
    have H3 := Aside0.mk hr2
    have K3 := Aside0.mk (K2.out.then_ hk2 (fun _ hk => .inl hk))
    clear hr2 hk2 H2 K2
    go_wp2_with fail
    refine (rnum_any k 1 w _ g m1 m2 d1 d2 s2 H3.out E2.out).mono ?_
    rintro e w4 ⟨rfl, hr2, _, hk2⟩
    have H4 := Aside0.mk hr2
    have K4 := Aside0.mk (K3.out.then_ hk2 (fun _ hk => .inl hk))
    clear hr2 hk2 H3 K3
    go_wp2_with fail
    refine (rtext_any k w _ g m2 m3 d2 d3 s3 H4.out E3.out).mono ?_
    rintro e w5 ⟨rfl, hr2, _, hk2⟩
    have H5 := Aside0.mk hr2
    have K5 := Aside0.mk (K4.out.then_ hk2 (fun _ hk => .inl hk))
    clear hr2 hk2 H4 K4
    go_wp2_with fail
    refine (rtext_any k w _ g m3 m4 d3 d4 s4 H5.out E4.out).mono ?_
    rintro e w6 ⟨rfl, hr2, _, hk2⟩
    have H6 := Aside0.mk hr2
    have K6 := Aside0.mk (K5.out.then_ hk2 (fun _ hk => .inl hk))
    have HO6 := Aside0.mk (Kd.R_kept HO.out K6.out (fun k hk he => by have := gl.out; omega))
    have KW := Aside0.mk (HK.out.then_ K6.out (fun _ hk => .inl hk))
    have s6 := KW.out.1
    have e7 : IntKind.i64.wrap (z - 1) = z - 1 := IntWalk.i64_in _ (by omega)
    clear hr2 hk2 H5 K5 HO HK
    go_wp2_with (at_builtin; go_loud ((refine Kd.R_append k56 (w0 := w6) W.heap.size rfl (.tmp 18) (.tmp 32) 35 56 (.agg #[(.string ⟨#[]⟩), (.bool false), (.bool false), (.string ⟨#[]⟩), (.string ⟨#[]⟩)]) 56 rfl Try.underlying35 info56 rfl (by decide) (by decide) (.slice Av ys.length cv) ys (⟨s0, s1 == 1, s2 == 1, s3, s4⟩ : S56) [.string s0, .bool (s1 == 1), .bool (s2 == 1), .string s3, .string s4] (fun k => W.heap.size ≤ k) (fun _ => False) rfl rfl (k56_mkM _ _ _ ⟨s0, s1 == 1, s2 == 1, s3, s4⟩) (fun _ hk => hk.elim) (fun k hk => Nat.le_trans s6 hk) HO6.out (Below.refl _ _) s6 ?aL ?_; (case aL => omega); intro v7 w7 ho7 hb7 hg7 _; have HO7 := Aside0.mk ho7; have HG7 := Aside0.mk hg7; have HB7 := Aside0.mk hb7; clear ho7 hb7 hg7)))
    go_roundw
    case rel =>
     have N7 : ¬ some g = (Value.slice Av ys.length cv).ownBlock := fun e => by have := HO6.out.1 g e.symm; have := gl.out; omega
     refine ⟨z - 1, l4, b4, ys ++ [ch], rfl, by omega, by omega, ⟨by simp; omega⟩, ⟨by rw [show ch = ⟨s0, s1 == 1, s2 == 1, s3, s4⟩ from (Prod.mk.inj G1.out).1.symm]; exact HO7.out⟩, ⟨?_⟩, ⟨Kept.of_grown HG7.out KW.out (fun k hk => .inr (HO6.out.1 k hk))⟩, ⟨by rw [show (z - 1).toNat = m by have := HM.out; omega]; exact G2.out⟩⟩
     have hrd : Rd w w6 g l4 b4 := by
      have e1 := (Prod.mk.inj (Prod.mk.inj G1.out).2)
      rw [← e1.1, ← e1.2]
      exact H6.out
     exact hrd.of_kept (hrd.1.trans (HB7.out.mono sw)) ⟨HG7.out.size, fun i hi hn => HG7.out.block i hi (fun he => hn he.symm)⟩ (fun he => N7 he.symm)
    case measure => simp [intOf]; omega
  ·have hze : z.toNat = 0 := by omega
   have HG2 := HG.out
   rw [hze] at HG2
   obtain ⟨rfl, rfl, rfl⟩ : ys = xs ∧ l3 = l2 ∧ b3 = b2 := by simpa [rloop] using HG2
   have F4 := F3.out
   have nl := HLN.out
   clear HG HG2 hze F3
   by_cases hb : b3 = true
   ·subst hb
    rw [if_pos rfl] at F4
    obtain rfl := Option.some.inj F4
    clear F4
    go_wp2_with fail
    go_ret
    exact ⟨_, rfl, Kd.R_mono (Kd.R_far (p := ⟨g, 1, none⟩) HO.out (fun k hk => by have := gl.out; show k ≠ g; omega) _) (fun _ _ => trivial), HD.out.setBad true, Kept.setCell (p := ⟨g, 1, none⟩) HK.out (.inl rfl) _⟩
   ·obtain rfl : b3 = false := by simpa using hb
    rw [if_neg (by decide)] at F4
    obtain ⟨ok, g1, g2⟩ := Option.bind_eq_some_iff.1 F4
    obtain rfl := Option.some.inj g2
    have G1 := Aside0.mk g1
    clear F4 g1 g2 hb
    go_wp2_with fail
    refine (stack_May.calls k Av cv ys ok _ (Kd.R_reads' HO.out).2.2 (Kd.R_reads' HO.out).2.1 G1.out).mono ?_
    rintro e w7 ⟨rfl, hb7⟩
    have HB7 := Aside0.mk hb7
    have HD7 := Aside0.mk (HD.out.below hb7)
    have HO7 := Aside0.mk (Kd.R_below HO.out hb7)
    have HK7 := Aside0.mk (HK.out.below hb7)
    have o7 := HD7.out.fz
    have c7 := HD7.out.cells
    clear hb7
    go_wp2_with fail
    go_ret
    exact ⟨_, rfl, Kd.R_mono (Kd.R_far (p := ⟨g, 1, none⟩) HO7.out (fun k hk => by have := gl.out; show k ≠ g; omega) _) (fun _ _ => trivial), HD7.out.setBad (!ok), Kept.setCell (p := ⟨g, 1, none⟩) HK7.out (.inl rfl) _⟩
def sloop (k : Nat) (n : Int) : Nat → Int → List Int → Bool → List (List S56) → List (List S56) → Option (List (List S56) × List (List S56) × Bool)
 | 0, _, _, bad, U, R => some (U, R, bad)
 | d + 1, x, l, bad, U, R => if bad = true then some (U, R, bad) else (rstep k l bad).bind fun z => if x < n then sloop k n d (x + 1) z.2.1 z.2.2 (U ++ [z.1]) R else sloop k n d (x + 1) z.2.1 z.2.2 U (R ++ [z.1])
/-- What bytes are a stack's. -/
def stack_dec (k : Nat) (l : List Int) : Option (Option (List (List S56) × List (List S56))) := (rnum k 4 l false).bind fun a => (rnum k 4 a.2.1 a.2.2).bind fun b => (sloop k a.1 (a.1 + b.1).toNat 0 b.2.1 b.2.2 [] []).bind fun z => if z.2.2 = true then some none else if a.1 + b.1 > 4 then some none else (stack_enc k z.1 z.2.1).bind fun c => (bytes_Equal.f c l).bind fun q => some (if q = true then some (z.1, z.2.1) else none)
def DecR (w w' : World) (v : Value) (ee : Int) : Option (List (List S56) × List (List S56)) → Prop
 | none => v = .pointer none ∧ ee = 11
 | some z => ∃ g, v = .pointer (some ⟨g, 0, none⟩) ∧ ee = 0 ∧ St 63 35 (fun k => w.heap.size ≤ k) w.heap.size w' g z.1 z.2
set_option maxHeartbeats 1000000 in
set_option maxRecDepth 100000 in
theorem dec_any (k : Nat) (A : Option Addr) (c : Nat) (l : List Int) (w : World) (hr : Kd.C (Kd.int .u8) w A l.length l) (hc : l.length ≤ c) (r : Option (List (List S56) × List (List S56))) (hf : stack_dec k l = some r) :
  Calls Try.prog 22 #[.slice A l.length c] w fun e w' => ∃ v ee, e = .returned (.tuple #[v, .int .i64 ee]) ∧ DecR w w' v ee r ∧ Below w.heap.size w w' := by
 unfold stack_dec at hf
 obtain ⟨⟨n, l1, b1⟩, f1, hf⟩ := Option.bind_eq_some_iff.1 hf
 obtain ⟨⟨m, l2, b2⟩, f2, hf⟩ := Option.bind_eq_some_iff.1 hf
 obtain ⟨⟨Uf, Rf, bf⟩, f3, hf⟩ := Option.bind_eq_some_iff.1 hf
 simp only at f2 f3 hf
 have hn := rnum_le (by decide) f1
 have hm := rnum_le (by decide) f2
 have n0 := hn.1
 have n4 := hn.2
 have m0 := hm.1
 have m4 := hm.2
 have H0 := Aside0.mk (show Rd w (w.alloc (.cells #[.slice A l.length c, .bool false] 75)) w.heap.size l false from ⟨below_alloc (Below.refl _ _) _, Nat.le_refl _, A, c, blk_new w _, hc, hr⟩)
 have F1 := Aside0.mk f1
 have F2 := Aside0.mk f2
 have F3 := Aside0.mk f3
 have F4 := Aside0.mk hf
 have HR0 := Aside0.mk hr
 have HC0 := Aside0.mk hc
 clear hn hm f1 f2 f3 hf hr hc
 go_enter Try.func22, Try.ntmps22
 go_wp2_with fail
 refine (rnum_any k 4 w _ w.heap.size l l1 false b1 n H0.out F1.out).mono ?_
 rintro e w1 ⟨rfl, hr1, _, _⟩
 have H1 := Aside0.mk hr1
 clear hr1 H0
 go_wp2_with fail
 refine (rnum_any k 4 w _ w.heap.size l1 l2 b1 b2 m H1.out F2.out).mono ?_
 rintro e w2 ⟨rfl, hr1, _, _⟩
 have H2 := Aside0.mk hr1
 clear hr1 H1
 go_wp2_with fail
 refine (st_new w.heap.size _ H2.out.1.size).mono ?_
 rintro e w3 ⟨rfl, hs3, hb3⟩
 have H3 := Aside0.mk (H2.out.below hb3)
 have hgw := H2.out.lt
 have hws := H2.out.1.size
 have HS3 := Aside0.mk hs3
 clear hs3 hb3 H2
 obtain ⟨ws, hws2⟩ : ∃ ws, w2.heap.size = ws := ⟨_, rfl⟩
 rw [hws2] at hgw hws HS3 ⊢
 have hgs : ws ≤ ws := Nat.le_refl _
 have hgs0 : w.heap.size ≤ ws := by omega
 clear hws2
 have e1 : IntKind.i64.wrap (n + m) = n + m := IntWalk.i64_in _ (by omega)
 go_wp2_with fail
 go_loopw [8, 9] (fun i _ wr => ∃ (x : Int) (l3 : List Int) (b3 : Bool) (U R : List (List S56)), i = .int .i64 x ∧ 0 ≤ x ∧ x ≤ n + m ∧ Aside0 (Rd w wr w.heap.size l3 b3) ∧ Aside0 (St 63 35 (fun k => ws ≤ k) w.heap.size wr ws U R) ∧ Aside0 (U.length + R.length ≤ x.toNat) ∧ Aside0 (∀ y ∈ U ++ R, y.length ≤ 8) ∧ Aside0 (sloop k n (n + m - x).toNat x l3 b3 U R = some (Uf, Rf, bf))) (fun i _ _ => (n + m - intOf i).toNat)
 case atStart => exact ⟨0, l2, b2, [], [], rfl, Int.le_refl _, by omega, H3, HS3, ⟨by simp⟩, ⟨by simp⟩, ⟨by rw [Int.sub_zero]; exact F3.out⟩⟩
 case round =>
  clear H3 HS3 F3
  obtain ⟨x, l3, b3, U, R, rfl, hx0, hxl, HD, HS, HLN, HYL, HG⟩ := hrel
  have c1 := HD.out.cells
  by_cases hlt : x < n + m
  ·obtain ⟨d, hd⟩ : ∃ d, (n + m - x).toNat = d + 1 := ⟨(n + m - x).toNat - 1, by omega⟩
   have hg := HG.out
   rw [hd] at hg
   simp only [sloop] at hg
   have HM := Aside0.mk hd
   by_cases hb : b3 = true
   ·subst hb
    rw [if_pos rfl] at hg
    obtain ⟨rfl, rfl, rfl⟩ : U = Uf ∧ R = Rf ∧ true = bf := by simpa using hg
    have hf := F4.out
    rw [if_pos rfl] at hf
    obtain rfl := Option.some.inj hf
    clear hf hg hd HG F4
    go_wp2_with fail
    go_ret2
    exact ⟨_, _, rfl, ⟨rfl, rfl⟩, HD.out.1⟩
   ·obtain rfl : b3 = false := by simpa using hb
    rw [if_neg (by decide)] at hg
    obtain ⟨⟨xs, l4, b4⟩, g1, g2⟩ := Option.bind_eq_some_iff.1 hg
    have HXS := Aside0.mk (rstep_len g1)
    have G1 := Aside0.mk g1
    have hg2 := Aside0.mk g2
    obtain ⟨_, _, vu, vr, hb8, hu, hr⟩ := HS.out
    obtain ⟨Au, cu, rfl, _⟩ := Kd.Q_slice hu
    obtain ⟨Ar, cr, rfl, _⟩ := Kd.Q_slice hr
    have BK := Aside0.mk hb8
    have HU := Aside0.mk hu
    have HR := Aside0.mk hr
    have LU := Aside0.mk (Kd.Q_lt hu)
    have LR := Aside0.mk (Kd.Q_lt hr)
    have swr := Aside0.mk (Nat.le_of_lt (blk_lt hb8))
    have sww := Aside0.mk HD.out.1.size
    clear hb hg g1 g2 hd HG hb8 hu hr HS
    go_wp2_with fail
    refine (step_any k w _ w.heap.size l3 false (xs, l4, b4) HD.out G1.out).mono ?_
    rintro e w8 ⟨v8, rfl, hx8, hr8, hk8⟩
    obtain ⟨A8, c8, rfl⟩ := Kd.R_slice hx8
    have H8 := Aside0.mk (show Rd w w8 w.heap.size l4 b4 from hr8)
    have HX8 := Aside0.mk (show Kd.R k56 56 w8 w.heap.size (fun k => wr.heap.size ≤ k ∧ k < w8.heap.size) (.slice A8 xs.length c8) xs from Kd.R_mono (Kd.R_lower (Kd.R_bound hx8) sww.out) (fun k hk => ⟨hk.2.1, hk.2.2.1⟩))
    have BK8 := Aside0.mk (blk_kept BK.out hk8 (by omega))
    have HU8 := Aside0.mk (Kd.Q_kept HU.out hk8 (fun k hk he => by have := hk.1; omega))
    have HR8 := Aside0.mk (Kd.Q_kept HR.out hk8 (fun k hk he => by have := hk.1; omega))
    have s8 := Aside0.mk hk8.1
    clear hx8 hr8 hk8 BK HU HR HD c1
    by_cases hin : x < n
    ·have G2 := Aside0.mk (show sloop k n d (x + 1) l4 b4 (U ++ [xs]) R = some (Uf, Rf, bf) from by have := hg2.out; rwa [if_pos hin] at this)
     have L1 := LU
     have L2 := LR
     clear hg2
     have sb := H8.out.1.size
     have o0 := blk_frozen BK8.out 0
     have p0 : w8.cell? ⟨ws, 0, none⟩ = some (.slice Au U.length cu) := (blk_cell BK8.out 0).trans rfl
     go_wp2_with (at_builtin; go_loud ((refine Kd.Q_append kS (w0 := w8) w.heap.size rfl (.tmp 41) (.tmp 43) 61 35 (.slice none 0 0) 24 rfl Try.underlying61 info35 rfl (by decide) (by decide) (.slice Au U.length cu) U xs [.slice A8 xs.length c8] (fun k => ws ≤ k ∧ some k ≠ (Value.slice Ar R.length cr).ownBlock) (fun k => wr.heap.size ≤ k ∧ k < w8.heap.size) rfl rfl ⟨_, rfl, HX8.out⟩ ?aK ?aF (Kd.Q_mono HU8.out (fun k hk => hk)) (Below.refl _ _) sb ?aL ?_; (case aK => exact fun k hk => ⟨⟨by have := swr.out; omega, fun e => by have := L2.out k e.symm; omega⟩, fun e => by have := L1.out k e.symm; omega⟩); (case aF => exact fun k hk => ⟨by have := swr.out; have := s8.out; omega, fun e => by have := L2.out k e.symm; have := s8.out; omega⟩); (case aL => have := HLN.out; omega); intro v9 w9 ho9 hb9 hg9 hat9; obtain ⟨A9, c9, rfl, _⟩ := Kd.Q_slice ho9; obtain ⟨n9, hn9⟩ : ∃ n9, (U ++ [xs]).length = n9 := ⟨_, rfl⟩; rw [hn9] at ho9 hat9 ⊢; have HO9 := Aside0.mk ho9; have HB9 := Aside0.mk hb9; have HG9 := Aside0.mk hg9; have HT9 := Aside0.mk hat9; have BK9 := Aside0.mk (blk_grown BK8.out hg9 (Kd.Q_ne HU8.out BK8.out (by decide))); have o9 := blk_frozen BK9.out 0; have p9 : w9.cell? ⟨ws, 0, none⟩ = some (.slice Au U.length cu) := (blk_cell BK9.out 0).trans rfl; clear ho9 hb9 hg9 hat9)))
     go_roundw
     case rel =>
      have B10 := blk_put (cs' := #[.slice A9 n9 c9, .slice Ar R.length cr]) BK9.out 0 (.slice A9 n9 c9) rfl
      have h2 := Kd.Q_set (Kd.Q_after (ok := fun k => ws ≤ k) HR8.out HG9.out HT9.out) BK9.out (by decide) 0 (.slice A9 n9 c9)
      have h1 := Kd.Q_set HO9.out BK9.out (by decide) 0 (.slice A9 n9 c9)
      have hown : ∀ k, (Value.slice Au U.length cu).ownBlock = some k → ws ≤ k := fun k hk => (HU8.out.1 k hk).1
      have hrd : Rd w (w9.setCell ⟨ws, 0, none⟩ (.slice A9 n9 c9)) w.heap.size l4 b4 := by
       refine H8.out.of_kept (S := fun k => ws ≤ k) ((H8.out.1.trans HB9.out).setCell (p := ⟨ws, 0, none⟩) hgs0 _) (Kept.setCell (p := ⟨ws, 0, none⟩) (Kept.of_grown HG9.out (Kept.refl w8 _) (fun k hk => .inl (hown k hk))) (.inl hgs) _) (fun hf => by have hf2 : ws ≤ w.heap.size := hf; omega)
      refine ⟨x + 1, l4, b4, U ++ [xs], R, rfl, by omega, by omega, ⟨hrd⟩, ⟨⟨hgs0, hgs, _, _, B10, h1, h2⟩⟩, ⟨by have := HLN.out; simp; omega⟩, ⟨?_⟩, ⟨by rw [show (n + m - (x + 1)).toNat = d by have := HM.out; omega]; exact G2.out⟩⟩
      intro y hy
      simp only [List.mem_append, List.mem_singleton] at hy
      have hxs := HXS.out
      have hyl := HYL.out
      rcases hy with (hy | rfl) | hy
      ·exact hyl y (List.mem_append.2 (.inl hy))
      ·exact hxs
      ·exact hyl y (List.mem_append.2 (.inr hy))
     case measure => simp [intOf]; omega
    ·have G2 := Aside0.mk (show sloop k n d (x + 1) l4 b4 U (R ++ [xs]) = some (Uf, Rf, bf) from by have := hg2.out; rwa [if_neg hin] at this)
     have L1 := LR
     have L2 := LU
     clear hg2
     have sb := H8.out.1.size
     have o0 := blk_frozen BK8.out 1
     have p0 : w8.cell? ⟨ws, 1, none⟩ = some (.slice Ar R.length cr) := (blk_cell BK8.out 1).trans rfl
     go_wp2_with (at_builtin; go_loud ((refine Kd.Q_append kS (w0 := w8) w.heap.size rfl (.tmp 51) (.tmp 53) 61 35 (.slice none 0 0) 24 rfl Try.underlying61 info35 rfl (by decide) (by decide) (.slice Ar R.length cr) R xs [.slice A8 xs.length c8] (fun k => ws ≤ k ∧ some k ≠ (Value.slice Au U.length cu).ownBlock) (fun k => wr.heap.size ≤ k ∧ k < w8.heap.size) rfl rfl ⟨_, rfl, HX8.out⟩ ?aK ?aF (Kd.Q_mono HR8.out (fun k hk => hk)) (Below.refl _ _) sb ?aL ?_; (case aK => exact fun k hk => ⟨⟨by have := swr.out; omega, fun e => by have := L2.out k e.symm; omega⟩, fun e => by have := L1.out k e.symm; omega⟩); (case aF => exact fun k hk => ⟨by have := swr.out; have := s8.out; omega, fun e => by have := L2.out k e.symm; have := s8.out; omega⟩); (case aL => have := HLN.out; omega); intro v9 w9 ho9 hb9 hg9 hat9; obtain ⟨A9, c9, rfl, _⟩ := Kd.Q_slice ho9; obtain ⟨n9, hn9⟩ : ∃ n9, (R ++ [xs]).length = n9 := ⟨_, rfl⟩; rw [hn9] at ho9 hat9 ⊢; have HO9 := Aside0.mk ho9; have HB9 := Aside0.mk hb9; have HG9 := Aside0.mk hg9; have HT9 := Aside0.mk hat9; have BK9 := Aside0.mk (blk_grown BK8.out hg9 (Kd.Q_ne HR8.out BK8.out (by decide))); have o9 := blk_frozen BK9.out 1; have p9 : w9.cell? ⟨ws, 1, none⟩ = some (.slice Ar R.length cr) := (blk_cell BK9.out 1).trans rfl; clear ho9 hb9 hg9 hat9)))
     go_roundw
     case rel =>
      have B10 := blk_put (cs' := #[.slice Au U.length cu, .slice A9 n9 c9]) BK9.out 1 (.slice A9 n9 c9) rfl
      have h2 := Kd.Q_set (Kd.Q_after (ok := fun k => ws ≤ k) HU8.out HG9.out HT9.out) BK9.out (by decide) 1 (.slice A9 n9 c9)
      have h1 := Kd.Q_set HO9.out BK9.out (by decide) 1 (.slice A9 n9 c9)
      have hown : ∀ k, (Value.slice Ar R.length cr).ownBlock = some k → ws ≤ k := fun k hk => (HR8.out.1 k hk).1
      have hrd : Rd w (w9.setCell ⟨ws, 1, none⟩ (.slice A9 n9 c9)) w.heap.size l4 b4 := by
       refine H8.out.of_kept (S := fun k => ws ≤ k) ((H8.out.1.trans HB9.out).setCell (p := ⟨ws, 1, none⟩) hgs0 _) (Kept.setCell (p := ⟨ws, 1, none⟩) (Kept.of_grown HG9.out (Kept.refl w8 _) (fun k hk => .inl (hown k hk))) (.inl hgs) _) (fun hf => by have hf2 : ws ≤ w.heap.size := hf; omega)
      refine ⟨x + 1, l4, b4, U, R ++ [xs], rfl, by omega, by omega, ⟨hrd⟩, ⟨⟨hgs0, hgs, _, _, B10, h2, h1⟩⟩, ⟨by have := HLN.out; simp; omega⟩, ⟨?_⟩, ⟨by rw [show (n + m - (x + 1)).toNat = d by have := HM.out; omega]; exact G2.out⟩⟩
      intro y hy
      simp only [List.mem_append, List.mem_singleton] at hy
      have hxs := HXS.out
      have hyl := HYL.out
      rcases hy with hy | (hy | rfl)
      ·exact hyl y (List.mem_append.2 (.inl hy))
      ·exact hyl y (List.mem_append.2 (.inr hy))
      ·exact hxs
     case measure => simp [intOf]; omega
  ·have hxe : x = n + m := by omega
   have hg := HG.out
   rw [show (n + m - x).toNat = 0 by omega] at hg
   obtain ⟨rfl, rfl, rfl⟩ : U = Uf ∧ R = Rf ∧ b3 = bf := by simpa [sloop] using hg
   have hf := F4.out
   clear hg HG F4
   by_cases hb : b3 = true
   ·subst hb
    rw [if_pos rfl] at hf
    obtain rfl := Option.some.inj hf
    clear hf
    go_wp2_with fail
    go_ret2
    exact ⟨_, _, rfl, ⟨rfl, rfl⟩, HD.out.1⟩
   ·obtain rfl : b3 = false := by simpa using hb
    rw [if_neg (by decide)] at hf
    by_cases h4 : n + m > 4
    ·rw [if_pos h4] at hf
     obtain rfl := Option.some.inj hf
     clear hf
     go_wp2_with fail
     go_ret2
     exact ⟨_, _, rfl, ⟨rfl, rfl⟩, HD.out.1⟩
    ·rw [if_neg h4] at hf
     obtain ⟨cs, f5, hf⟩ := Option.bind_eq_some_iff.1 hf
     obtain ⟨q, f6, hf⟩ := Option.bind_eq_some_iff.1 hf
     obtain rfl := Option.some.inj hf
     have F5 := Aside0.mk f5
     have F6 := Aside0.mk f6
     have h4' : n + m ≤ 4 := by omega
     clear f5 f6 hf hb h4
     go_wp2_with fail
     refine (enc_yes k _ w.heap.size ws U R cs _ HS.out (by have := HLN.out; omega) (by have := HLN.out; omega) (fun y hy => by have := HYL.out y hy; omega) F5.out).mono ?_
     rintro e w9 ⟨v9, rfl, ho9, hb9⟩
     obtain ⟨A9, c9, rfl⟩ := Kd.R_slice ho9
     have HO9 := Aside0.mk (Kd.R_reads' ho9).2
     have HS9 := Aside0.mk (HS.out.below hb9)
     have HB9 := Aside0.mk (HD.out.1.trans (hb9.mono HD.out.1.size))
     clear ho9 hb9 HD c1 HS
     cases q
     all_goals
      go_wp2_with (go_at_call 41; refine (bytes_Equal.calls A9 c9 cs A c l _ _ HO9.out.2 HO9.out.1 (Kd.C_below HR0.out HB9.out) HC0.out F6.out).mono ?_; rintro e w7 ⟨rfl, ⟨n7, rfl⟩⟩)
      go_ret2
     ·exact ⟨_, _, rfl, ⟨rfl, rfl⟩, pw_below_drewN HB9.out n7⟩
     ·exact ⟨_, _, rfl, ⟨ws, rfl, rfl, (HS9.out.drewN n7).mono (fun k hk => Nat.le_trans hgs0 hk)⟩, pw_below_drewN HB9.out n7⟩
theorem C_one56 {W : World} {A : Option Addr} {n : Nat} {t : S56} (h : Kd.C k56 W A n [t]) (hn : n = 1) : ∃ ad, A = some ad ∧ W.cell? ad = some (.string t.f0) ∧ W.cell? ⟨ad.block, ad.off + 1, none⟩ = some (.bool t.f1) ∧ W.cell? ⟨ad.block, ad.off + 2, none⟩ = some (.bool t.f2) ∧ W.cell? ⟨ad.block, ad.off + 3, none⟩ = some (.string t.f3) ∧ W.cell? ⟨ad.block, ad.off + 4, none⟩ = some (.string t.f4) := by
 obtain ⟨ad, e, q0, q1, q2, q3, q4⟩ := at_T56 h 0 (Int.le_refl _) (by omega)
 have hz : ad.add ((0 : Int).toNat * 5) = ad := addr_zero ad
 rw [hz] at q0 q1 q2 q3 q4
 exact ⟨ad, e, q0, q1, q2, q3, q4⟩
def chg (n o t : ByteArray) : S56 := ⟨n, true, true, o, t⟩
def bs1 : ByteArray := ⟨#[97]⟩
theorem stepc (a0 a1 a2 : ByteArray) (w : World) : Calls Try.prog 27 #[.string a0, .string a1, .string a2] w fun e w' => ∃ A c, e = .returned (.slice A 1 c) ∧ Kd.R k56 56 w' w.heap.size (fun _ => True) (.slice A 1 c) [chg a0 a1 a2] ∧ Below w.heap.size w w' := by
 refine (recensionlaw25_step.calls a0 a1 a2 [chg a0 a1 a2] w rfl).mono ?_
 rintro e w' ⟨v, rfl, ho, hb⟩
 obtain ⟨A, c, rfl⟩ := Kd.R_slice ho
 exact ⟨A, c, rfl, ho, hb⟩
/-- The frame of a call on the stack at P, and a row that is none of it. -/
theorem R_frame {base : Nat} {W W2 : World} {P ok : Nat → Prop} {v : Value} {xs : List S56} (h : Kd.R k56 56 W base ok v xs) (hk : Kp W W2 P) (hb : W.heap.size ≤ W2.heap.size) : Kd.R k56 56 W2 base ok v xs := by
 refine Kd.R_mono (Kd.R_kept (Kd.R_bound h) hk (fun k hk1 he => ?_)) (fun k hk => hk.1)
 obtain ⟨_, _, _, q, hq, cells, hc⟩ := hk1
 have hq2 : q = 56 := by simpa [k56, Kd.iso, Kd.pair, Kd.string, Kd.bool, Kd.scalar] using hq
 subst hq2
 exact he.2 ⟨cells, hc⟩
set_option maxHeartbeats 1000000 in
set_option maxRecDepth 100000 in
theorem begun_walk (k : Nat) (w : World) (cs : List Int) (h1 : stack_May.f k [chg ⟨#[97]⟩ ⟨#[120]⟩ ⟨#[121]⟩] = some true) (h2 : stack_May.f k [chg ⟨#[97]⟩ ⟨#[121]⟩ ⟨#[122]⟩] = some true) (h3 : stack_May.f k [] = some false) (h4 : stack_enc k [[chg ⟨#[97]⟩ ⟨#[120]⟩ ⟨#[121]⟩]] [[chg ⟨#[97]⟩ ⟨#[121]⟩ ⟨#[122]⟩]] = some cs) (h5 : stack_dec k cs = some (some ([[chg ⟨#[97]⟩ ⟨#[120]⟩ ⟨#[121]⟩]], [[chg ⟨#[97]⟩ ⟨#[121]⟩ ⟨#[122]⟩]]))) (h6 : stack_dec k [] = some none) :
  Calls Try.prog 9 #[] w fun e w' => e = .returned (.bool true) ∧ Below w.heap.size w w' := by
 obtain ⟨t1, ht1⟩ : ∃ t1, chg ⟨#[97]⟩ ⟨#[120]⟩ ⟨#[121]⟩ = t1 := ⟨_, rfl⟩
 obtain ⟨t2, ht2⟩ : ∃ t2, chg ⟨#[97]⟩ ⟨#[121]⟩ ⟨#[122]⟩ = t2 := ⟨_, rfl⟩
 rw [ht1] at h1 h4 h5
 rw [ht2] at h2 h4 h5
 have T1 := Aside0.mk ht1
 have T2 := Aside0.mk ht2
 have H1 := Aside0.mk h1
 have H2 := Aside0.mk h2
 have H3 := Aside0.mk h3
 have H4 := Aside0.mk h4
 have H5 := Aside0.mk h5
 have H6 := Aside0.mk h6
 clear h1 h2 h3 h4 h5 h6 ht1 ht2
 go_enter Try.func9, Try.ntmps9
 go_wp2_with fail
 refine (st_new w.heap.size w (Nat.le_refl _)).mono ?_
 rintro e w1 ⟨rfl, hs, hb⟩
 have S1 := Aside0.mk hs
 have B1 := Aside0.mk hb
 clear hs hb
 go_wp2_with fail
 refine (stepc _ _ _ _).mono ?_
 rintro e w2 ⟨Ax, cx, rfl, ho, hb⟩
 have R2 := Aside0.mk ho
 have S2 := Aside0.mk (S1.out.below hb)
 have B2 := Aside0.mk (B1.out.trans (hb.mono B1.out.size))
 clear ho hb S1 B1
 go_wp2_with fail
 refine (push_yes k _ w.heap.size w.heap.size [] [] Ax cx _ w2 S2.out B2.out.size (Kd.R_reads' R2.out).2.2 (Kd.R_reads' R2.out).2.1 (by rw [T1.out]; exact H1.out) (by simp) (by simp)).mono ?_
 rintro e w3 ⟨rfl, hs, hb, _⟩
 have S3 := Aside0.mk hs
 have B3 := Aside0.mk (B2.out.trans hb)
 clear hs hb S2 B2 R2
 go_wp2_with fail
 refine (stepc _ _ _ _).mono ?_
 rintro e w4 ⟨Ay, cy, rfl, ho, hb⟩
 have R4 := Aside0.mk ho
 have S4 := Aside0.mk (S3.out.below hb)
 have B4 := Aside0.mk (B3.out.trans (hb.mono B3.out.size))
 clear ho hb S3 B3
 go_wp2_with fail
 refine (push_yes k _ w.heap.size w.heap.size _ [] Ay cy _ w4 S4.out B4.out.size (Kd.R_reads' R4.out).2.2 (Kd.R_reads' R4.out).2.1 (by rw [T2.out]; exact H2.out) (by simp) (by simp)).mono ?_
 rintro e w5 ⟨rfl, hs, hb, _⟩
 obtain ⟨P5, hs5⟩ : ∃ P5, St 63 35 P5 w.heap.size w5 w.heap.size ([[t1]] ++ [[t2]]) [] := ⟨_, by rw [T1.out, T2.out] at hs; exact hs⟩
 have S5 := Aside0.mk hs5
 have B5 := Aside0.mk (B4.out.trans hb)
 clear hs hs5 hb S4 B4 R4
 go_wp2_with fail
 refine (undo_yes _ w.heap.size w.heap.size [[t1]] [] [t2] w5 S5.out B5.out.size (by simp) (by simp) (by simp)).mono ?_
 rintro e w6 ⟨v6, rfl, ho, hs, hb, _⟩
 obtain ⟨A6, c6, rfl⟩ := Kd.R_slice ho
 have X6 := Aside0.mk (show Kd.R k56 56 w6 w5.heap.size (fun _ => True) (.slice A6 1 c6) [t2] from ho)
 have S6 := Aside0.mk hs
 have B6 := Aside0.mk (B5.out.trans hb)
 have hz6 : ([t2] : List S56).length = 1 := rfl
 clear hs ho hb S5
 go_wp2_with fail
 refine (enc_yes k _ w.heap.size w.heap.size [[t1]] [[t2]] cs w6 S6.out (by simp) (by simp) (by simp) H4.out).mono ?_
 rintro e w7 ⟨v7, rfl, ho, hb⟩
 obtain ⟨A7, c7, rfl⟩ := Kd.R_slice ho
 have C7 := Aside0.mk (Kd.R_reads' ho).2
 have X7 := Aside0.mk (Kd.R_below X6.out hb)
 have B7 := Aside0.mk (B6.out.trans (hb.mono B6.out.size))
 clear ho hb S6 X6 B6
 go_wp2_with fail
 refine (dec_any k A7 c7 cs w7 C7.out.2 C7.out.1 _ H5.out).mono ?_
 rintro e w8 ⟨v8, ee8, rfl, ⟨g8, rfl, rfl, hs⟩, hb⟩
 have S8 := Aside0.mk hs
 have X8 := Aside0.mk (Kd.R_below X7.out hb)
 have B8 := Aside0.mk (B7.out.trans (hb.mono B7.out.size))
 have s78 := Aside0.mk hb.size
 clear hs hb X7
 go_wp2_with fail
 refine (len_yes _ _ g8 _ _ w8 S8.out).mono ?_
 rintro e w9 ⟨rfl, ⟨n9, rfl⟩⟩
 have S9 := Aside0.mk (S8.out.drewN n9)
 have X9 := Aside0.mk (Kd.R_drewN X8.out n9)
 have B9 := Aside0.mk (pw_below_drewN B8.out n9)
 have s79 := Aside0.mk (show w7.heap.size ≤ (w8.drewN n9).heap.size from s78.out)
 clear S8 X8 B8
 go_wp2_with fail
 refine (redo_yes _ w7.heap.size g8 [[t1]] [] [t2] _ S9.out s79.out (by simp) (by simp) (by simp)).mono ?_
 rintro e w10 ⟨v10, rfl, ho, _, hb, hk⟩
 obtain ⟨A10, c10, rfl⟩ := Kd.R_slice ho
 have Y10 := Aside0.mk (show Kd.R k56 56 w10 (w8.drewN n9).heap.size (fun _ => True) (.slice A10 1 c10) [t2] from ho)
 have X10 := Aside0.mk (R_frame X9.out hk hk.1)
 have B10 := Aside0.mk (B9.out.trans (hb.mono B7.out.size))
 clear ho hb hk S9 X9 B9
 go_wp2_with fail
 refine (dec_any k none 0 [] w10 (Kd.C_nil _ _) (Nat.le_refl _) _ H6.out).mono ?_
 rintro e w11 ⟨v11, ee11, rfl, ⟨rfl, rfl⟩, hb⟩
 have X11 := Aside0.mk (Kd.R_below X10.out hb)
 have Y11 := Aside0.mk (Kd.R_below Y10.out hb)
 have B11 := Aside0.mk (B10.out.trans (hb.mono B10.out.size))
 obtain ⟨ax, rfl, qx0, _, _, qx3, _⟩ := C_one56 (Kd.R_reads' X11.out).2.2 rfl
 obtain ⟨ay, rfl, _, _, _, _, qy4⟩ := C_one56 (Kd.R_reads' Y11.out).2.2 rfl
 have e3 : t2.f3 = ⟨#[121]⟩ := by rw [← T2.out]; rfl
 have e4 : t2.f4 = ⟨#[122]⟩ := by rw [← T2.out]; rfl
 rw [e3] at qx3
 rw [e4] at qy4
 clear hb X10 Y10 B10 e3 e4 qx0
 go_wp2_with fail
 refine (stack_May.calls k (some ax) c6 [t2] true _ (Kd.R_reads' X11.out).2.2 (Kd.R_reads' X11.out).2.1 H2.out).mono ?_
 rintro e w12 ⟨rfl, hb⟩
 have B12 := Aside0.mk (B11.out.trans (hb.mono B11.out.size))
 clear hb
 go_wp2_with fail
 refine (stack_May.calls k none 0 [] false _ (Kd.C_nil _ _) (Nat.le_refl _) H3.out).mono ?_
 rintro e w13 ⟨rfl, hb⟩
 have B13 := Aside0.mk (B12.out.trans (hb.mono B12.out.size))
 clear hb
 go_wp2_with fail
 refine (push_no k _ none 0 [] _ (Kd.C_nil _ _) (Nat.le_refl _) H3.out).mono ?_
 rintro e w14 ⟨rfl, hb⟩
 have B14 := Aside0.mk (B13.out.trans (hb.mono B13.out.size))
 clear hb
 go_wp2_with fail
 go_ret
 exact ⟨rfl, B14.out⟩
/-- What the statements' first part rests on. -/
def BegunOK (k : Nat) : Prop := stack_May.f k [chg ⟨#[97]⟩ ⟨#[120]⟩ ⟨#[121]⟩] = some true ∧ stack_May.f k [chg ⟨#[97]⟩ ⟨#[121]⟩ ⟨#[122]⟩] = some true ∧ stack_May.f k [] = some false ∧ ∃ cs, stack_enc k [[chg ⟨#[97]⟩ ⟨#[120]⟩ ⟨#[121]⟩]] [[chg ⟨#[97]⟩ ⟨#[121]⟩ ⟨#[122]⟩]] = some cs ∧ stack_dec k cs = some (some ([[chg ⟨#[97]⟩ ⟨#[120]⟩ ⟨#[121]⟩]], [[chg ⟨#[97]⟩ ⟨#[121]⟩ ⟨#[122]⟩]])) ∧ stack_dec k [] = some none
theorem begun_ok {k : Nat} (h : BegunOK k) (w : World) : Calls Try.prog 9 #[] w fun e w' => e = .returned (.bool true) ∧ Below w.heap.size w w' := by
 obtain ⟨h1, h2, h3, cs, h4, h5, h6⟩ := h
 exact begun_walk k w cs h1 h2 h3 h4 h5 h6

end Go.Proofs.Ythjbcpakpfdkaaa.PStack
