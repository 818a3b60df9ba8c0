/- Edits that may be, laid one by one from the last one on, make the text that all at once make. Condition: none beside the statement's own. -/
import Derived.Test.YtdbkapkiaigddaaPEditOnex4
namespace Go.Proofs.Ytdbkapkiaigddaa.Pure
open Go.RowKit Go.Proofs.Ytdbkapkiaigddaa.PEditOne Go.Proofs.YtdbkapkiaigddaaW.PrintWords Go.Proofs.YtdbkapkiaigddaaW.PrintLast Go.Proofs.YtdbkapkiaigddaaW.PrintMore
def dl (s : ByteArray) : List UInt8 := s.data.toList
theorem dl_len (s : ByteArray) : (dl s).length = s.size := by unfold dl; rw [Array.length_toList]; rfl
theorem dl_inj {s t : ByteArray} (h : dl s = dl t) : s = t := by
  obtain ⟨a⟩ := s
  obtain ⟨b⟩ := t
  have : a.toList = b.toList := h
  rw [Array.toList_inj.1 this]
theorem dl_mk (l : List UInt8) : dl ⟨l.toArray⟩ = l := rfl
theorem dl_extract (s : ByteArray) (a b : Nat) : dl (s.extract a b) = ((dl s).drop a).take (b - a) := by
  unfold dl
  rw [ByteArray.data_extract, Array.toList_extract]
theorem dl_append (a b : ByteArray) : dl (a ++ b) = dl a ++ dl b := by
  unfold dl
  rw [ByteArray.data_append, Array.toList_append]
def nums8 (l : List UInt8) : List Int := l.map fun b => (b.toNat : Int)
theorem bytes_dl (s : ByteArray) : bytesOf s = nums8 (dl s) := rfl
theorem str_nums8 (l : List UInt8) : strOfNums (nums8 l) = ⟨l.toArray⟩ := by
  have e : (fun n : Int => UInt8.ofNat n.toNat) ∘ (fun b : UInt8 => (b.toNat : Int)) = id := by
    funext b; simp
  simp [strOfNums, nums8, List.map_map, e]
theorem nums8_append (a b : List UInt8) : nums8 a ++ nums8 b = nums8 (a ++ b) := by simp [nums8]
theorem rd_at {l : List S31} {i : Nat} (h : i < l.length) : rd_T31 l (i : Int) = l[i] ∧ l.drop i = l[i] :: l.drop (i + 1) := by
  constructor
  · unfold rd_T31
    have e : ((i : Int)).toNat = i := by omega
    rw [e, List.getD_eq_getElem?_getD, List.getElem?_eq_getElem h]; rfl
  · exact List.drop_eq_getElem_cons h
theorem wrap_up {i : Nat} {n : Nat} (h : i < n) (hn : n ≤ 140737488351232) : wrap64 ((i : Int) + 1) = ((i + 1 : Nat) : Int) := by unfold wrap64; omega

/-- Which edits may be, behind an edit that ends at e. -/
def mayB (e n : Int) : List S31 → Bool
  | [] => true
  | x :: l => !decide (x.f0 ≤ e) && (!decide (x.f1 < 0) && (!decide (x.f0 > n) && (!decide (x.f1 > n - x.f0) && mayB (x.f0 + x.f1) n l)))
theorem mayB_cons {e n : Int} {x : S31} {l : List S31} : mayB e n (x :: l) = true ↔ e < x.f0 ∧ 0 ≤ x.f1 ∧ x.f0 ≤ n ∧ x.f1 ≤ n - x.f0 ∧ mayB (x.f0 + x.f1) n l = true := by
  simp only [mayB, Bool.and_eq_true, Bool.not_eq_true', decide_eq_false_iff_not]
  constructor
  · rintro ⟨h1, h2, h3, h4, h5⟩; exact ⟨by omega, by omega, by omega, by omega, h5⟩
  · rintro ⟨h1, h2, h3, h4, h5⟩; exact ⟨by omega, by omega, by omega, by omega, h5⟩
theorem may_l0 (n : Int) (hn0 : 0 ≤ n) (hn : n ≤ 1000000) (l : List S31) (hl : l.length ≤ 1000000) (d : Nat) : ∀ (k i : Nat) (e : Int), -1 ≤ e → e ≤ n → i + d = l.length → d < k → edit_May.l0 k n e l (l.length : Int) (i : Int) = some (mayB e n (l.drop i)) := by
  induction d with
  | zero =>
    intro k i e _ _ hi hk
    obtain ⟨k, rfl⟩ : ∃ m, k = m + 1 := ⟨k - 1, by omega⟩
    simp only [edit_May.l0]
    rw [if_neg (by omega), List.drop_of_length_le (by omega)]; rfl
  | succ d ih =>
    intro k i e he hen hi hk
    obtain ⟨k, rfl⟩ : ∃ m, k = m + 1 := ⟨k - 1, by omega⟩
    have hlt : i < l.length := by omega
    obtain ⟨hr, hd⟩ := rd_at hlt
    have ew := wrap_up hlt (by omega)
    simp only [edit_May.l0]
    rw [if_pos (by omega), if_pos (by omega), if_pos (by omega), hr, hd, ew]
    by_cases h1 : l[i].f0 ≤ e
    · rw [if_pos h1]; simp [mayB, h1]
    · rw [if_neg h1]
      by_cases h2 : l[i].f1 < 0
      · rw [if_pos h2]; simp [mayB, h2]
      · rw [if_neg h2]
        by_cases h3 : l[i].f0 > n
        · rw [if_pos h3]; simp [mayB]; omega
        · rw [if_neg h3]
          have e1 : wrap64 (n - l[i].f0) = n - l[i].f0 := by unfold wrap64; omega
          rw [e1]
          by_cases h4 : l[i].f1 > n - l[i].f0
          · rw [if_pos h4]; simp [mayB]; omega
          · have e2 : wrap64 (l[i].f0 + l[i].f1) = l[i].f0 + l[i].f1 := by unfold wrap64; omega
            rw [if_neg h4, e2, ih k (i + 1) _ (by omega) (by omega) (by omega) (by omega)]
            simp [mayB, h1, h2, h3, h4]
theorem may_f (k : Nat) (l : List S31) (n : Nat) (hn : n ≤ 1000000) (hl : l.length ≤ 1000000) (hk : l.length < k) : edit_May.f k l (n : Int) = some (mayB (-1) (n : Int) l) := by
  unfold edit_May.f
  have h := may_l0 (n : Int) (by omega) (by omega) l hl l.length k 0 (-1) (by omega) (by omega) (by omega) hk
  simpa using h

/-- What comes of edits, from a place of the text on. -/
def app (s : List UInt8) : Nat → List S31 → List UInt8
  | p, [] => s.drop p
  | p, x :: l => (s.drop p).take (x.f0.toNat - p) ++ (dl x.f2 ++ app s (x.f0 + x.f1).toNat l)
theorem app_len (s : List UInt8) {l : List S31} (hT : ∀ x ∈ l, (dl x.f2).length ≤ 10) : ∀ p, (app s p l).length ≤ s.length * (l.length + 1) + 10 * l.length := by
  induction l with
  | nil => intro p; simp [app]
  | cons x l ih =>
    intro p
    have h1 := ih (fun y hy => hT y (by simp [hy])) (x.f0 + x.f1).toNat
    have h2 := hT x (by simp)
    have h3 : ((s.drop p).take (x.f0.toNat - p)).length ≤ s.length := by rw [List.length_take, List.length_drop]; omega
    have h4 : s.length * (l.length + 1 + 1) = s.length * (l.length + 1) + s.length := by rw [Nat.mul_add, Nat.mul_one]
    simp only [app, List.length_append, List.length_cons]
    omega

/-- The edits that take it back. -/
def backL (s : ByteArray) : Int → List S31 → List S31
  | _, [] => []
  | m, x :: l => ⟨x.f0 + m, (x.f2.size : Int), s.extract x.f0.toNat (x.f0 + x.f1).toNat⟩ :: backL s (m + (x.f2.size : Int) - x.f1) l
theorem back_len (s : ByteArray) : ∀ (l : List S31) (m : Int), (backL s m l).length = l.length
  | [], _ => rfl
  | _ :: l, m => by simp only [backL, List.length_cons, back_len s l]

theorem apply_l0 (s : ByteArray) (hs : s.size ≤ 2000) (l : List S31) (hl : l.length ≤ 100) (hT : ∀ x ∈ l, x.f2.size ≤ 2000) (d : Nat) : ∀ (k i p : Nat) (B : List UInt8), mayB ((p : Int) - (if i = 0 then 1 else 0)) (s.size : Int) (l.drop i) = true → (i = 0 → p = 0) → p ≤ s.size → i + d = l.length → d < k → B.length ≤ 5000 * i →
    edit_Apply.l0 k s (nums8 B) (p : Int) l (l.length : Int) (i : Int) = some (⟨(B ++ app (dl s) p (l.drop i)).toArray⟩, true) := by
  induction d with
  | zero =>
    intro k i p B _ _ hp hi hk hB
    obtain ⟨k, rfl⟩ : ∃ m, k = m + 1 := ⟨k - 1, by omega⟩
    have hB' : (nums8 B).length = B.length := by simp [nums8]
    have hx : (s.extract p s.size).size ≤ 2000 := by simp; omega
    simp only [edit_Apply.l0]
    rw [if_neg (by omega), if_pos (by omega), if_pos (by omega), List.drop_of_length_le (by omega)]
    have ep : ((p : Int)).toNat = p := by omega
    rw [ep, if_pos (by omega), bytes_dl, nums8_append, str_nums8, dl_extract]
    have ht : ((dl s).drop p).take (s.size - p) = (dl s).drop p := List.take_of_length_le (by rw [List.length_drop, dl_len]; omega)
    rw [ht]; rfl
  | succ d ih =>
    intro k i p B hm h0 hp hi hk hB
    obtain ⟨k, rfl⟩ : ∃ m, k = m + 1 := ⟨k - 1, by omega⟩
    have hlt : i < l.length := by omega
    obtain ⟨hr, hd⟩ := rd_at hlt
    have ew := wrap_up hlt (by omega)
    rw [hd] at hm ⊢
    obtain ⟨m1, m2, m3, m4, m5⟩ := mayB_cons.1 hm
    have hTi := hT l[i] (List.getElem_mem _)
    have hpe : (p : Int) ≤ l[i].f0 := by
      by_cases hi0 : i = 0
      · rw [if_pos hi0] at m1; omega
      · rw [if_neg hi0] at m1; omega
    have hB' : (nums8 B).length = B.length := by simp [nums8]
    have hx : (s.extract p l[i].f0.toNat).size ≤ 2000 := by simp; omega
    have hdx : (dl (s.extract p l[i].f0.toNat)).length ≤ 2000 := by rw [dl_len]; exact hx
    have ep : ((p : Int)).toNat = p := by omega
    have e2 : wrap64 (l[i].f0 + l[i].f1) = (((l[i].f0 + l[i].f1).toNat : Nat) : Int) := by unfold wrap64; omega
    simp only [edit_Apply.l0]
    rw [if_pos (by omega), if_pos (by omega), if_pos (by omega), hr, if_pos (by omega), if_pos hpe, if_pos (by omega), ep, if_pos (by omega), bytes_dl, nums8_append]
    simp only [Option.bind_some]
    have hB2 : (nums8 (B ++ dl (s.extract p l[i].f0.toNat))).length = B.length + (dl (s.extract p l[i].f0.toNat)).length := by simp [nums8]
    rw [if_pos (by omega), bytes_dl, nums8_append, e2, ew]
    have hm' : mayB ((((l[i].f0 + l[i].f1).toNat : Nat) : Int) - (if i + 1 = 0 then 1 else 0)) (s.size : Int) (l.drop (i + 1)) = true := by
      rw [if_neg (by omega)]
      have : ((((l[i].f0 + l[i].f1).toNat : Nat) : Int) - 0) = l[i].f0 + l[i].f1 := by omega
      rw [this]; exact m5
    rw [ih k (i + 1) (l[i].f0 + l[i].f1).toNat _ hm' (by omega) (by omega) (by omega) (by omega) (by
      have := dl_len l[i].f2
      rw [List.length_append, List.length_append]; omega)]
    have hap : app (dl s) p (l[i] :: l.drop (i + 1)) = dl (s.extract p l[i].f0.toNat) ++ (dl l[i].f2 ++ app (dl s) (l[i].f0 + l[i].f1).toNat (l.drop (i + 1))) := by
      simp only [app]; rw [dl_extract]
    rw [hap]
    simp only [List.append_assoc]

theorem apply_f (k : Nat) (s : ByteArray) (l : List S31) (hs : s.size ≤ 2000) (hl : l.length ≤ 100) (hT : ∀ x ∈ l, x.f2.size ≤ 2000) (hk : l.length < k) :
    edit_Apply.f k s l = some (if mayB (-1) (s.size : Int) l = true then (⟨(app (dl s) 0 l).toArray⟩, true) else ((⟨#[]⟩ : ByteArray), false)) := by
  unfold edit_Apply.f
  rw [may_f k l s.size (by omega) (by omega) hk]
  simp only [Option.bind_some]
  by_cases h : mayB (-1) (s.size : Int) l = true
  · rw [if_pos h, if_pos h]
    have h2 := apply_l0 s hs l hl hT l.length k 0 0 [] (by simpa using h) (fun _ => rfl) (by omega) (by omega) hk (by simp)
    simpa [nums8] using h2
  · rw [if_neg h, if_neg h]

theorem back_l0 (s : ByteArray) (hs : s.size ≤ 2000) (l : List S31) (hl : l.length ≤ 100) (hT : ∀ x ∈ l, x.f2.size ≤ 2000) (d : Nat) : ∀ (k i : Nat) (e m : Int) (B : List S31), -1 ≤ e → mayB e (s.size : Int) (l.drop i) = true → -2000 * i ≤ m → m ≤ 2000 * i → i + d = l.length → d < k → B.length ≤ i →
    edit_Back.l0 k s B m l (l.length : Int) (i : Int) = some (B ++ backL s m (l.drop i)) := by
  induction d with
  | zero =>
    intro k i e m B _ _ _ _ hi hk hB
    obtain ⟨k, rfl⟩ : ∃ m, k = m + 1 := ⟨k - 1, by omega⟩
    simp only [edit_Back.l0]
    rw [if_neg (by omega), List.drop_of_length_le (by omega)]
    simp [backL]
  | succ d ih =>
    intro k i e m B he hm hm0 hm1 hi hk hB
    obtain ⟨k, rfl⟩ : ∃ m, k = m + 1 := ⟨k - 1, by omega⟩
    have hlt : i < l.length := by omega
    obtain ⟨hr, hd⟩ := rd_at hlt
    have ew := wrap_up hlt (by omega)
    rw [hd] at hm ⊢
    obtain ⟨m1, m2, m3, m4, m5⟩ := mayB_cons.1 hm
    have hTi := hT l[i] (List.getElem_mem _)
    have e2 : wrap64 (l[i].f0 + l[i].f1) = l[i].f0 + l[i].f1 := by unfold wrap64; omega
    have e3 : wrap64 (l[i].f0 + m) = l[i].f0 + m := by unfold wrap64; omega
    have e4 : wrap64 (m + wrap64 ((l[i].f2.size : Int) - l[i].f1)) = m + (l[i].f2.size : Int) - l[i].f1 := by
      have : wrap64 ((l[i].f2.size : Int) - l[i].f1) = (l[i].f2.size : Int) - l[i].f1 := by unfold wrap64; omega
      rw [this]; unfold wrap64; omega
    simp only [edit_Back.l0]
    rw [if_pos (by omega), if_pos (by omega), if_pos (by omega), hr, e2, if_pos (by omega), if_pos (by omega), if_pos (by omega), if_pos (by omega), e3, e4, ew]
    rw [ih k (i + 1) (l[i].f0 + l[i].f1) _ _ (by omega) m5 (by omega) (by omega) (by omega) (by omega) (by rw [List.length_append, List.length_singleton]; omega)]
    simp only [backL, List.append_assoc, List.singleton_append]

theorem back_f (k : Nat) (s : ByteArray) (l : List S31) (hs : s.size ≤ 2000) (hl : l.length ≤ 100) (hT : ∀ x ∈ l, x.f2.size ≤ 2000) (hk : l.length < k) :
    edit_Back.f k s l = some (if mayB (-1) (s.size : Int) l = true then backL s 0 l else []) := by
  unfold edit_Back.f
  rw [may_f k l s.size (by omega) (by omega) hk]
  simp only [Option.bind_some]
  by_cases h : mayB (-1) (s.size : Int) l = true
  · rw [if_pos h, if_pos h]
    have h2 := back_l0 s hs l hl hT l.length k 0 (-1) 0 [] (by omega) (by simpa using h) (by omega) (by omega) (by omega) hk (by simp)
    simpa using h2
  · rw [if_neg h, if_neg h]

theorem drop_at {α : Type} {a b : List α} {n : Nat} (h : a.length = n) : (a ++ b).drop n = b := by
  subst h
  exact List.drop_left
theorem app_drop (s : List UInt8) {n : Nat} (hn : s.length = n) {p : Nat} {x : S31} (h0 : (p : Int) ≤ x.f0) (h1 : x.f0 ≤ n) : ((s.drop p).take (x.f0.toNat - p)).length = x.f0.toNat - p := by
  rw [List.length_take, List.length_drop]; omega

/-- The edits back may be. -/
theorem back_may (s : ByteArray) : ∀ (l : List S31) (e m : Int) (p : Nat) (T : Int), mayB e (s.size : Int) l = true → (p : Int) = (if e < 0 then 0 else e) → -1 ≤ e → p ≤ s.size → 0 ≤ (p : Int) + m → (p : Int) + m + ((app (dl s) p l).length : Int) = T → (e < 0 → m = 0) → mayB (e + m) T (backL s m l) = true
  | [], _, _, _, _, _, _, _, _, _, _, _ => rfl
  | x :: l, e, m, p, T, h, hp, he, hps, h0, hT, hz => by
    obtain ⟨m1, m2, m3, m4, m5⟩ := mayB_cons.1 h
    have hpx : (p : Int) ≤ x.f0 := by
      by_cases hn : e < 0
      · rw [if_pos hn] at hp; omega
      · rw [if_neg hn] at hp; omega
    have hl := app_drop (dl s) (dl_len s) (x := x) hpx m3
    simp only [app, List.length_append, hl, dl_len] at hT
    have ih := back_may s l (x.f0 + x.f1) (m + (x.f2.size : Int) - x.f1) (x.f0 + x.f1).toNat T m5 (by rw [if_neg (by omega)]; omega) (by omega) (by omega) (by omega) (by omega) (by omega)
    simp only [backL]
    refine mayB_cons.2 ⟨by show e + m < x.f0 + m; omega, by show (0 : Int) ≤ (x.f2.size : Int); omega, by show x.f0 + m ≤ T; omega, by show (x.f2.size : Int) ≤ T - (x.f0 + m); omega, ?_⟩
    have e1 : x.f0 + x.f1 + (m + (x.f2.size : Int) - x.f1) = x.f0 + m + (x.f2.size : Int) := by omega
    rw [e1] at ih
    exact ih

/-- The edits back make the text again. -/
theorem back_app (s : ByteArray) (t : List UInt8) : ∀ (l : List S31) (e m : Int) (p o : Nat), mayB e (s.size : Int) l = true → -1 ≤ e → (p : Int) = (if e < 0 then 0 else e) → p ≤ s.size → (o : Int) = (p : Int) + m → t.drop o = app (dl s) p l → app t o (backL s m l) = (dl s).drop p
  | [], e, m, p, o, _, _, _, _, _, ht => by simp only [backL, app] at ht ⊢; exact ht
  | x :: l, e, m, p, o, h, he, hp, hps, ho, ht => by
    obtain ⟨m1, m2, m3, m4, m5⟩ := mayB_cons.1 h
    have hpx : (p : Int) ≤ x.f0 := by
      by_cases hn : e < 0
      · rw [if_pos hn] at hp; omega
      · rw [if_neg hn] at hp; omega
    have hl := app_drop (dl s) (dl_len s) (x := x) hpx m3
    have hxl := dl_len x.f2
    have ih := back_app s t l (x.f0 + x.f1) (m + (x.f2.size : Int) - x.f1) (x.f0 + x.f1).toNat (x.f0 + m + (x.f2.size : Int)).toNat m5 (by omega) (by rw [if_neg (by omega)]; omega) (by omega) (by omega) (by
      have e1 : (x.f0 + m + (x.f2.size : Int)).toNat = o + ((x.f0.toNat - p) + x.f2.size) := by omega
      rw [e1, ← List.drop_drop, ht]
      simp only [app]
      rw [← List.drop_drop, drop_at hl, drop_at hxl])
    have e2 : (x.f0 + m).toNat - o = x.f0.toNat - p := by omega
    have e3 : (t.drop o).take (x.f0.toNat - p) = ((dl s).drop p).take (x.f0.toNat - p) := by
      rw [ht]
      simp only [app]
      rw [List.take_append_of_le_length (by omega), List.take_of_length_le (by omega)]
    simp only [backL, app]
    rw [e2, e3, dl_extract, ih]
    have e4 : (x.f0 + x.f1).toNat - x.f0.toNat = x.f1.toNat := by omega
    have e5 : (x.f0 + x.f1).toNat = x.f0.toNat + x.f1.toNat := by omega
    have e6 : (dl s).drop p = ((dl s).drop p).take (x.f0.toNat - p) ++ (dl s).drop x.f0.toNat := by
      have e7 : x.f0.toNat = p + (x.f0.toNat - p) := by omega
      have e8 := List.take_append_drop (x.f0.toNat - p) ((dl s).drop p)
      rw [List.drop_drop, ← e7] at e8
      exact e8.symm
    rw [e4, e5, ← List.drop_drop, List.take_append_drop]
    exact e6.symm

/-- The edits back of the edits back are the edits. -/
def same (x y : S31) : Bool := (x.f0 == y.f0) && ((x.f1 == y.f1) && (x.f2.toList == y.f2.toList))
def sameL : List S31 → List S31 → Bool
  | [], [] => true
  | x :: l, y :: r => same x y && sameL l r
  | _, _ => false
theorem back_back (s t : ByteArray) : ∀ (l : List S31) (e m : Int) (p o : Nat), mayB e (s.size : Int) l = true → -1 ≤ e → (p : Int) = (if e < 0 then 0 else e) → p ≤ s.size → (o : Int) = (p : Int) + m → (dl t).drop o = app (dl s) p l → sameL (backL t (-m) (backL s m l)) l = true
  | [], _, _, _, _, _, _, _, _, _, _ => rfl
  | x :: l, e, m, p, o, h, he, hp, hps, ho, ht => by
    obtain ⟨m1, m2, m3, m4, m5⟩ := mayB_cons.1 h
    have hpx : (p : Int) ≤ x.f0 := by
      by_cases hn : e < 0
      · rw [if_pos hn] at hp; omega
      · rw [if_neg hn] at hp; omega
    have hl := app_drop (dl s) (dl_len s) (x := x) hpx m3
    have hxl := dl_len x.f2
    have hd1 : (dl t).drop (x.f0 + m).toNat = dl x.f2 ++ app (dl s) (x.f0 + x.f1).toNat l := by
      have e1 : (x.f0 + m).toNat = o + (x.f0.toNat - p) := by omega
      rw [e1, ← List.drop_drop, ht]
      simp only [app]
      rw [drop_at hl]
    have ih := back_back s t l (x.f0 + x.f1) (m + (x.f2.size : Int) - x.f1) (x.f0 + x.f1).toNat (x.f0 + m + (x.f2.size : Int)).toNat m5 (by omega) (by rw [if_neg (by omega)]; omega) (by omega) (by omega) (by
      have e1 : (x.f0 + m + (x.f2.size : Int)).toNat = (x.f0 + m).toNat + x.f2.size := by omega
      rw [e1, ← List.drop_drop, hd1, drop_at hxl])
    have hex : (s.extract x.f0.toNat (x.f0 + x.f1).toNat).size = x.f1.toNat := by
      rw [← dl_len, dl_extract, List.length_take, List.length_drop, dl_len]; omega
    have hf2 : t.extract (x.f0 + m).toNat (x.f0 + m + (x.f2.size : Int)).toNat = x.f2 := by
      apply dl_inj
      rw [dl_extract, hd1]
      have e1 : (x.f0 + m + (x.f2.size : Int)).toNat - (x.f0 + m).toNat = x.f2.size := by omega
      rw [e1, List.take_append_of_le_length (by omega), List.take_of_length_le (by omega)]
    have em : -m + ((s.extract x.f0.toNat (x.f0 + x.f1).toNat).size : Int) - (x.f2.size : Int) = -(m + (x.f2.size : Int) - x.f1) := by rw [hex]; omega
    simp only [backL, sameL, same]
    rw [em, ih, hf2, hex]
    have e1 : x.f0 + m + -m = x.f0 := by omega
    have e2 : ((x.f1.toNat : Nat) : Int) = x.f1 := by omega
    rw [e1, e2]
    simp

theorem same_test (x y : S31) : (!((x.f0) == (y.f0)) || (!((x.f1) == (y.f1)) || (!(((x.f2).toList) == ((y.f2).toList))))) = !same x y := by
  unfold same
  cases (x.f0 == y.f0) <;> cases (x.f1 == y.f1) <;> cases (x.f2.toList == y.f2.toList) <;> rfl
theorem sameL_len : ∀ {a b : List S31}, sameL a b = true → a.length = b.length
  | [], [], _ => rfl
  | x :: l, y :: r, h => by
    simp only [sameL, Bool.and_eq_true] at h
    rw [List.length_cons, List.length_cons, sameL_len h.2]
  | [], _ :: _, h => by simp [sameL] at h
  | _ :: _, [], h => by simp [sameL] at h
theorem eq_l0 (a b : List S31) (hab : a.length = b.length) (ha : a.length ≤ 1000000) (d : Nat) : ∀ (k i : Nat), i + d = a.length → d < k → api_Edit.l0 k a b (a.length : Int) (i : Int) = some (sameL (a.drop i) (b.drop i)) := by
  induction d with
  | zero =>
    intro k i hi hk
    obtain ⟨k, rfl⟩ : ∃ m, k = m + 1 := ⟨k - 1, by omega⟩
    simp only [api_Edit.l0]
    rw [if_neg (by omega), List.drop_of_length_le (by omega), List.drop_of_length_le (by omega)]; rfl
  | succ d ih =>
    intro k i hi hk
    obtain ⟨k, rfl⟩ : ∃ m, k = m + 1 := ⟨k - 1, by omega⟩
    have h1 : i < a.length := by omega
    have h2 : i < b.length := by omega
    obtain ⟨hr, hd⟩ := rd_at h1
    obtain ⟨hr2, hd2⟩ := rd_at h2
    have ew := wrap_up h1 (by omega)
    simp only [api_Edit.l0]
    rw [if_pos (by omega), if_pos (by omega), if_pos (by omega), if_pos (by omega), hr, hr2, same_test, hd, hd2, ew, ih k (i + 1) (by omega) (by omega)]
    simp only [sameL]
    cases same a[i] b[i] <;> simp
theorem eq_f (k : Nat) (a b : List S31) (ha : a.length ≤ 1000000) (hk : a.length < k) : edit_Eq.f k a b = some (sameL a b) := by
  unfold edit_Eq.f api_Edit.f
  by_cases h : (a.length : Int) = (b.length : Int)
  · rw [if_pos h]
    have h2 := eq_l0 a b (by omega) ha a.length k 0 (by omega) hk
    have h3 : api_Edit.l0 k a b (a.length : Int) 0 = some (sameL a b) := by simpa using h2
    rw [h3]; rfl
  · rw [if_neg h]
    have : sameL a b = false := by
      rcases hs : sameL a b with _ | _
      · rfl
      · exact absurd (sameL_len hs) (by omega)
    rw [this]; rfl

theorem cut3_f (s : ByteArray) (n : Nat) : ∃ t : ByteArray, recensionlaw3_Cut.f s (n : Int) = some t ∧ t.size ≤ n := by
  unfold recensionlaw3_Cut.f
  by_cases h : (s.size : Int) > n
  · rw [if_pos h, if_pos (by omega), if_pos (by omega)]
    exact ⟨_, rfl, by simp; omega⟩
  · rw [if_neg h]
    exact ⟨s, rfl, by omega⟩
theorem cut8_l0 (l : List S31) (d : Nat) : ∀ (k i : Nat) (B : List S31), i + d = 12 → d < k → B.length ≤ i → i ≤ l.length → (∀ x ∈ B, x.f2.size ≤ 10) → ∃ c, recensionlaw8_Cut.l0 k l B (i : Int) = some c ∧ c.length ≤ 12 ∧ ∀ x ∈ c, x.f2.size ≤ 10 := by
  induction d with
  | zero =>
    intro k i B hi hk hB _ hx
    obtain ⟨k, rfl⟩ : ∃ m, k = m + 1 := ⟨k - 1, by omega⟩
    refine ⟨B, ?_, by omega, hx⟩
    simp only [recensionlaw8_Cut.l0]
    by_cases h : (i : Int) < (l.length : Int)
    · rw [if_pos h, if_neg (by omega)]
    · rw [if_neg h]
  | succ d ih =>
    intro k i B hi hk hB hil hx
    obtain ⟨k, rfl⟩ : ∃ m, k = m + 1 := ⟨k - 1, by omega⟩
    by_cases h : (i : Int) < (l.length : Int)
    · obtain ⟨t, ht, hts⟩ := cut3_f (rd_T31 l (i : Int)).f2 10
      have ht' : recensionlaw3_Cut.f (rd_T31 l (i : Int)).f2 10 = some t := ht
      have ew : wrap64 ((i : Int) + 1) = ((i + 1 : Nat) : Int) := by unfold wrap64; omega
      obtain ⟨c, hc, hcl, hcx⟩ := ih k (i + 1) (B ++ [⟨(rd_T31 l (i : Int)).f0, (rd_T31 l (i : Int)).f1, t⟩]) (by omega) (by omega) (by rw [List.length_append, List.length_singleton]; omega) (by omega) (by
        intro x hxm
        rcases List.mem_append.1 hxm with h1 | h1
        · exact hx x h1
        · rw [List.mem_singleton.1 h1]; exact hts)
      refine ⟨c, ?_, hcl, hcx⟩
      simp only [recensionlaw8_Cut.l0]
      rw [if_pos h, if_pos (by omega), if_pos (by omega), ht']
      simp only [Option.bind_some]
      rw [if_pos (by omega), ew, hc]
    · refine ⟨B, ?_, by omega, hx⟩
      simp only [recensionlaw8_Cut.l0]
      rw [if_neg h]
theorem cut8_f (k : Nat) (l : List S31) (hk : 12 < k) : ∃ c, recensionlaw8_Cut.f k l = some c ∧ c.length ≤ 12 ∧ ∀ x ∈ c, x.f2.size ≤ 10 := by
  obtain ⟨c, h1, h2, h3⟩ := cut8_l0 l 12 k 0 [] (by omega) hk (by simp) (by omega) (by simp)
  exact ⟨c, h1, h2, h3⟩

theorem begun_f : recensionlaw8_begun.f 40 = some true := by decide +kernel
def PE (l : List S31) (j : Nat) (P : Int) : Prop := (j = 0 → P = -1) ∧ ∀ h : j - 1 < l.length, 0 < j → P = l[j - 1].f0 + l[j - 1].f1
theorem may_at (n : Int) (hn : 0 ≤ n) (l : List S31) (h : mayB (-1) n l = true) : ∀ j, j ≤ l.length → ∃ P : Int, mayB P n (l.drop j) = true ∧ -1 ≤ P ∧ P ≤ n ∧ PE l j P
  | 0, _ => ⟨-1, h, by omega, by omega, fun _ => rfl, fun _ h0 => absurd h0 (by omega)⟩
  | j + 1, hj => by
    obtain ⟨P, h1, h2, _, _⟩ := may_at n hn l h j (by omega)
    have hlt : j < l.length := by omega
    rw [(rd_at hlt).2] at h1
    obtain ⟨m1, m2, m3, m4, m5⟩ := mayB_cons.1 h1
    exact ⟨l[j].f0 + l[j].f1, m5, by omega, by omega, fun h0 => absurd h0 (by omega), fun _ _ => rfl⟩
theorem one_l0 (s : ByteArray) (hs : s.size ≤ 100) (l : List S31) (hl : l.length ≤ 12) (hT : ∀ x ∈ l, x.f2.size ≤ 10) (hmay : mayB (-1) (s.size : Int) l = true) : ∀ (j k : Nat) (t : ByteArray) (P : Int), PE l j P → j ≤ l.length → j + 40 < k → dl t = (dl s).take P.toNat ++ app (dl s) P.toNat (l.drop j) → t.size ≤ 200 + 10 * (12 - j) →
    recensionlaw8_EditOne.l0 k l ⟨(app (dl s) 0 l).toArray⟩ t ((j : Int) - 1) = some true
  | 0, k, t, P, hP, _, hk, ht, _ => by
    obtain ⟨k, rfl⟩ : ∃ q, k = q + 1 := ⟨k - 1, by omega⟩
    have e : P = -1 := hP.1 rfl
    have e2 : dl t = app (dl s) 0 l := by rw [ht, e]; simp
    have e3 : t = ⟨(app (dl s) 0 l).toArray⟩ := dl_inj (by rw [e2, dl_mk (app (dl s) 0 l)])
    simp only [recensionlaw8_EditOne.l0]
    rw [if_neg (by omega), e3]
    simp
  | j + 1, k, t, Q, hQ, hj, hk, ht, hts => by
    obtain ⟨k, rfl⟩ : ∃ q, k = q + 1 := ⟨k - 1, by omega⟩
    have hlt : j < l.length := by omega
    have ej : (((j + 1 : Nat) : Int) - 1) = (j : Int) := by omega
    have ew : wrap64 ((j : Int) + 1) = ((j + 1 : Nat) : Int) := by unfold wrap64; omega
    have ew2 : wrap64 ((j : Int) - 1) = (j : Int) - 1 := by unfold wrap64; omega
    have en1 : (((j + 1 : Nat) : Int)).toNat = j + 1 := by omega
    have en0 : ((j : Int)).toNat = j := by omega
    obtain ⟨P, h1, h2, h3, hP⟩ := may_at (s.size : Int) (by omega) l hmay j (by omega)
    rw [(rd_at hlt).2] at h1
    obtain ⟨m1, m2, m3, m4, m5⟩ := mayB_cons.1 h1
    have hTj := hT l[j] (List.getElem_mem _)
    have e : Q = l[j].f0 + l[j].f1 := hQ.2 (by omega) (by omega)
    clear hQ
    subst e
    have hcut : (l.take (j + 1)).drop j = [l[j]] := by
      rw [List.take_succ_eq_append_getElem hlt, drop_at (by rw [List.length_take]; omega)]
    have hq : ((dl s).take (l[j].f0 + l[j].f1).toNat).length = (l[j].f0 + l[j].f1).toNat := by rw [List.length_take, dl_len]; omega
    have htl := dl_len t
    rw [ht, List.length_append, hq] at htl
    have hm1 : mayB (-1) (t.size : Int) [l[j]] = true := mayB_cons.2 ⟨by omega, m2, by omega, by omega, rfl⟩
    have hap := apply_f k t [l[j]] (by omega) (by simp) (fun x hx => by rw [List.mem_singleton.1 hx]; omega) (by simp; omega)
    rw [if_pos hm1] at hap
    have hp : P.toNat ≤ l[j].f0.toNat := by omega
    have hle : l[j].f0.toNat ≤ (l[j].f0 + l[j].f1).toNat := by omega
    have hmn : min l[j].f0.toNat (l[j].f0 + l[j].f1).toNat = l[j].f0.toNat := by omega
    have hA : app (dl t) 0 [l[j]] = (dl s).take P.toNat ++ app (dl s) P.toNat (l.drop j) := by
      rw [(rd_at hlt).2]
      simp only [app]
      have e5 : (dl t).drop (l[j].f0 + l[j].f1).toNat = app (dl s) (l[j].f0 + l[j].f1).toNat (l.drop (j + 1)) := by rw [ht, drop_at hq]
      have e6 : ((dl t).drop 0).take (l[j].f0.toNat - 0) = (dl s).take l[j].f0.toNat := by
        rw [List.drop_zero, Nat.sub_zero, ht, List.take_append_of_le_length (by rw [hq]; exact hle), List.take_take, hmn]
      rw [e5, e6]
      have e7 : (dl s).take l[j].f0.toNat = (dl s).take P.toNat ++ ((dl s).drop P.toNat).take (l[j].f0.toNat - P.toNat) := by
        have e8 : l[j].f0.toNat = P.toNat + (l[j].f0.toNat - P.toNat) := by omega
        conv => lhs; rw [e8]
        exact List.take_add
      rw [e7]
      simp only [List.append_assoc]
    have h9 : (⟨(app (dl t) 0 [l[j]]).toArray⟩ : ByteArray).size = (app (dl t) 0 [l[j]]).length := by rw [← dl_len, dl_mk]
    have h10 : (app (dl t) 0 [l[j]]).length ≤ t.size + 10 := by
      simp only [app, List.length_append, List.length_take, List.length_drop, dl_len]
      omega
    have ih := one_l0 s hs l hl hT hmay j k ⟨(app (dl t) 0 [l[j]]).toArray⟩ P hP (by omega) (by omega) (by rw [dl_mk (app (dl t) 0 [l[j]]), hA]) (by rw [h9]; omega)
    simp only [recensionlaw8_EditOne.l0]
    rw [ej, if_pos (by omega), if_pos (by omega), ew, if_pos (by omega), if_pos (by omega), en1, en0, hcut, hap, ew2]
    simp only [Option.bind_some, if_true]
    exact ih

theorem EditOne : recensionlaw8_EditOne.Pure := by
  intro s0 l0 _ _
  have hb : recensionlaw8_begun.f 200 = some true := at_rounds (fun k => recensionlaw8_begun.mono k) (by omega : 40 ≤ 200) begun_f
  obtain ⟨s, hs, hsz⟩ := cut3_f s0 100
  have hs' : recensionlaw3_Cut.f s0 100 = some s := hs
  obtain ⟨l, hl, hll, hlT⟩ := cut8_f 200 l0 (by omega)
  have hT : ∀ x ∈ l, x.f2.size ≤ 2000 := fun x hx => by have := hlT x hx; omega
  refine ⟨200, ?_⟩
  unfold recensionlaw8_EditOne.f
  rw [hb, hs', hl]
  simp only [Option.bind_some, if_true]
  rw [apply_f 200 s l (by omega) (by omega) hT (by omega)]
  simp only [Option.bind_some]
  by_cases hmay : mayB (-1) (s.size : Int) l = true
  · rw [if_pos hmay]
    simp only [if_true]
    have ew : wrap64 ((l.length : Int) - 1) = (l.length : Int) - 1 := by unfold wrap64; omega
    rw [ew]
    obtain ⟨P, _, _, _, hP⟩ := may_at (s.size : Int) (by omega) l hmay l.length (by omega)
    refine one_l0 s hsz l hll hlT hmay l.length 200 s P hP (Nat.le_refl _) (by omega) ?_ (by omega)
    rw [List.drop_of_length_le (Nat.le_refl _)]
    simp only [app]
    exact (List.take_append_drop _ _).symm
  · rw [if_neg hmay]
    simp

end Go.Proofs.Ytdbkapkiaigddaa.Pure
