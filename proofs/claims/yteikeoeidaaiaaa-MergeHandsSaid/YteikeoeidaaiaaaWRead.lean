/- Words of my own: what a law's argument of any kind (slices of structs, structs, slices of slices) says when it is opened: its cells are of the printed kind, and its numbers, strings and lengths are in their bounds. -/
import Derived.Test.YteikeoeidaaiaaaWMore
import Derived.SizedLaws
import Derived.ChangeSlices
import Derived.ChangeArms
import Derived.DataReads
import Derived.WideShapes
import Derived.Deep.Slices
import Derived.ShutString
namespace Go.Proofs.YteikeoeidaaiaaaW.PrintWords
open Go.RowKit Go.ChangeShapes Go.WideShapes Go.Deep
/-- What is read at type t: its cells are of kind d, and G is known of it. -/
def Opens (P : Program) {α : Type} (t : TypeId) (d : Kd α) (G : α → Prop) : Prop :=
  ∀ {H : Type} (enc : TypeId × Value → H) (w : World) (spare : Nat → Bool) (held : Bool) (fuel : Nat) (cs : List Value) (x : DataW H × List MemPlace),
    DataW.trod enc P w 0 spare held fuel t cs = some x → (∀ n ∈ x.1.weights P t, n ≤ reachBytes) → ∃ a : α, d.K w a cs ∧ G a
theorem opens_int {P : Program} {t : TypeId} {k : IntKind} (ht : P.underlying t = some (.int k)) : Opens P t (Kd.int k) (fun n => (Lit.int k n).wf = true) := by
  intro H enc w spare held fuel cs x h _
  obtain ⟨n, rfl, _, hw⟩ := DataW.trod_int ht h
  exact ⟨n, rfl, hw⟩
theorem opens_string {P : Program} {t : TypeId} (ht : P.underlying t = some .string) : Opens P t Kd.string (fun s => s.size ≤ 140737488351232) := by
  intro H enc w spare held fuel cs x h hw
  obtain ⟨s, rfl, rfl, _⟩ := DataW.trod_string ht h
  refine ⟨s, rfl, ?_⟩
  have := hw s.data.toList.length (by simp [DataW.weights])
  rw [Array.length_toList] at this
  exact this
theorem weights_all {H : Type} {P : Program} {e : TypeId} : ∀ {ds : List (DataW H)} {d : DataW H}, d ∈ ds → ∀ n ∈ d.weights P e, n ∈ DataW.weightsAll P e ds
  | _ :: ds, d, hd, n, hn => by
    simp only [DataW.weightsAll, List.mem_append]
    rcases List.mem_cons.1 hd with rfl | hd
    · exact .inl hn
    · exact .inr (weights_all hd n hn)
theorem opens_slice {P : Program} {α : Type} {t e : TypeId} {d : Kd α} {G : α → Prop} {B : Nat} (ht : P.underlying t = some (.slice e)) (hC : P.cellsOf e = d.sz) (hB : P.bytesOf e = B) (he : Opens P e d G) :
    Opens P t (Kd.slice e d) (fun xs => xs.length ≤ maxLen ∧ xs.length * B ≤ 140737488351232 ∧ ∀ x ∈ xs, G x) := by
  intro H enc w spare held fuel cs x h hw
  rcases open_slice ht h with ⟨rfl, rfl⟩ | ⟨a, len, cap, m, n, D, Pl, rfl, _, hl, hm, hmm, rfl, hi⟩
  · exact ⟨[], ⟨none, 0, rfl, Nat.le_refl _, by simp, by simp, fun h0 => absurd h0 (by simp)⟩, by simp, by simp, by simp⟩
  · have hlm : len ≤ m := by rw [hmm]; split <;> omega
    have hlb : len * B ≤ 140737488351232 := by
      have h1 := hw ((((List.range len).map D).length + ((List.range (m - len)).map fun j => D (len + j)).length) * P.bytesOf e) (by simp [DataW.weights, ht])
      rw [List.length_map, List.length_map, List.length_range, List.length_range, hB] at h1
      have h2 : len * B ≤ (len + (m - len)) * B := Nat.mul_le_mul_right _ (by omega)
      have h3 : reachBytes = 140737488351232 := rfl
      omega
    have hx : ∀ i : Nat, i < len → ∃ x : α, G x ∧ ∃ c, d.K w x c ∧ ∀ j u, c[j]? = some u → w.cell? (a.add (i * d.sz + j)) = some u := by
      intro i hil
      obtain ⟨cs', hc, ht'⟩ := hi i (by omega)
      rw [hC] at hc
      obtain ⟨_, hcl, hat⟩ := World.cells?_some hc
      obtain ⟨x, hK, hG⟩ := he enc w spare held n cs' _ ht' (fun q hq => hw q (by
        simp only [DataW.weights, ht]
        refine List.mem_cons_of_mem _ (List.mem_append_left _ (weights_all (d := D i) (List.mem_map.2 ⟨i, List.mem_range.2 hil, rfl⟩) q hq))))
      refine ⟨x, hG, cs', hK, fun j u hj => ?_⟩
      have hjl : j < d.sz := by have := (List.getElem?_eq_some_iff.1 hj).1; omega
      rw [← Go.Deep.add_add, hat j hjl, hj]
    have hpick : ∀ i : Nat, ∃ o : Option α, (i < len → ∃ x, o = some x ∧ G x ∧ ∃ c, d.K w x c ∧ ∀ j u, c[j]? = some u → w.cell? (a.add (i * d.sz + j)) = some u) := by
      intro i
      by_cases hil : i < len
      · obtain ⟨x, h1, h2⟩ := hx i hil
        exact ⟨some x, fun _ => ⟨x, rfl, h1, h2⟩⟩
      · exact ⟨none, fun h0 => absurd h0 hil⟩
    have hlist : ∀ q : Nat, q ≤ len → ∃ xs : List α, xs.length = q ∧ ∀ (i : Nat) (x : α), xs[i]? = some x → G x ∧ ∃ c, d.K w x c ∧ ∀ j u, c[j]? = some u → w.cell? (a.add (i * d.sz + j)) = some u := by
      intro q
      induction q with
      | zero => exact fun _ => ⟨[], rfl, fun i x hx => by simp at hx⟩
      | succ q ih =>
        intro hq
        obtain ⟨xs, hxl, hxs⟩ := ih (by omega)
        obtain ⟨x, h1, h2⟩ := hx q (by omega)
        refine ⟨xs ++ [x], by simp [hxl], fun i y hy => ?_⟩
        rcases Nat.lt_or_ge i xs.length with hlt | hge
        · rw [List.getElem?_append_left hlt] at hy
          exact hxs i y hy
        · have hiq : i = q := by
            have := (List.getElem?_eq_some_iff.1 hy).1
            rw [List.length_append, List.length_singleton] at this
            omega
          subst hiq
          have hy' : x = y := by
            rw [List.getElem?_append_right (by omega)] at hy
            rw [hxl, Nat.sub_self] at hy
            simpa using hy
          subst hy'
          exact ⟨h1, h2⟩
    obtain ⟨xs, hxl, hxs⟩ := hlist len (Nat.le_refl _)
    subst hxl
    have hmx : maxLen = 9223372036854775807 := rfl
    refine ⟨xs, ⟨some a, cap, rfl, hl, rfl, by omega, fun _ => ⟨a, rfl, fun j p hj => ?_⟩⟩, by omega, hlb, fun x hxm => ?_⟩
    · obtain ⟨_, c, hK, hc⟩ := hxs j p hj
      exact ⟨c, d.K_len hK, hK, hc⟩
    · obtain ⟨i, hi2⟩ := List.mem_iff_getElem?.1 hxm
      exact (hxs i x hi2).1
/-- A slice that is an argument. -/
theorem opens_arg {P : Program} {α : Type} {t e : TypeId} {d : Kd α} {G : List α → Prop} (ht : P.underlying t = some (.slice e)) (ho : Opens P t (Kd.slice e d) G) {H : Type} {enc : TypeId × Value → H} {W : World} {base : Nat} {spare : Nat → Bool} {held : Bool} {r : Reach} {v : Value} {x : DataW H} {ps : List MemPlace} {ts : List TypeId} {ds : List (DataW H)} {j : Nat}
    (hv : Value.okWide P W r base t v) (h : DataW.Trod enc P W 0 spare held t v x ps) (hsz : (DataW.weightsEach P ts ds).all (· ≤ reachBytes) = true) (hts : ts[j]? = some t) (hds : ds[j]? = some x) :
    ∃ (A : Option Addr) (c : Nat) (l : List α), v = .slice A l.length c ∧ Kd.C d W A l.length l ∧ l.length ≤ c ∧ G l := by
  obtain ⟨A, len, cap, rfl⟩ := okWide_slice ht hv
  obtain ⟨fuel, hf⟩ := h
  obtain ⟨l, ⟨A', c, hcs, hl, hC⟩, hG⟩ := ho enc W spare held fuel _ _ hf (fun n hn => by
    have := List.all_eq_true.1 hsz n (DataW.weights_mem_each hts hds n hn)
    simpa using this)
  simp [Value.cells] at hcs
  obtain ⟨rfl, rfl, rfl⟩ := hcs
  exact ⟨A, cap, l, rfl, hC, hl, hG⟩
theorem weights_at {H : Type} {P : Program} {t : TypeId} {fs : Array Field} (ht : P.underlying t = some (.struct fs)) {xs : List (DataW H × List MemPlace)} (hw : ∀ n ∈ (DataW.agg (xs.map (·.1))).weights P t, n ≤ reachBytes) {i : Nat} {f : Field} {y : DataW H × List MemPlace} (hf : fs[i]? = some f) (hy : xs[i]? = some y) :
    ∀ n ∈ y.1.weights P f.type, n ≤ reachBytes := by
  intro n hn
  refine hw n ?_
  simp only [DataW.weights, ht]
  exact DataW.weights_mem_each (j := i) (t := f.type) (d := y.1) (by simp [hf]) (by simp [hy]) n hn
theorem cut_at (cs : List Value) (O S R : Nat) (h : O + S = R) : cs.drop O = (cs.drop O).take S ++ cs.drop R := by
  subst h
  rw [← List.drop_drop]
  exact (List.take_append_drop S _).symm
theorem cut_first (cs : List Value) (S : Nat) : cs = (cs.drop 0).take S ++ cs.drop S := (List.take_append_drop S cs).symm
theorem cut_last {cs : List Value} {O S n : Nat} (hl : cs.length = n) (h : n = O + S) : (cs.drop O).take S = cs.drop O := List.take_of_length_le (by rw [List.length_drop]; omega)
/-- A struct's field that is read. -/
theorem opens_field {P : Program} {α H : Type} {enc : TypeId × Value → H} {w : World} {spare : Nat → Bool} {held : Bool} {t : TypeId} {fs : Array Field} {n : Nat} {cs : List Value} {xs : List (DataW H × List MemPlace)} {d : Kd α} {G : α → Prop} (ht : P.underlying t = some (.struct fs))
    (hw : ∀ n ∈ (DataW.agg (xs.map (·.1))).weights P t, n ≤ reachBytes) (hxl : xs.length = fs.size) (hf : ∀ (i : Nat) (f : Field), fs[i]? = some f → DataW.trod enc P w 0 spare held n f.type ((cs.drop f.offset).take (P.cellsOf f.type)) = xs[i]?) {i : Nat} {f : Field} {T O S : Nat} (hi : fs[i]? = some f) (hT : f.type = T) (hO : f.offset = O) (hS : P.cellsOf T = S) (ho : Opens P T d G) :
    ∃ a : α, d.K w a ((cs.drop O).take S) ∧ G a := by
  subst hT; subst hO; subst hS
  have hil : i < xs.length := by rw [hxl]; exact (Array.getElem?_eq_some_iff.1 hi).1
  have hy : xs[i]? = some xs[i] := List.getElem?_eq_getElem hil
  have h1 := hf i f hi
  rw [hy] at h1
  exact ho enc w spare held n _ _ h1 (weights_at ht hw hi hy)
end Go.Proofs.YteikeoeidaaiaaaW.PrintWords
