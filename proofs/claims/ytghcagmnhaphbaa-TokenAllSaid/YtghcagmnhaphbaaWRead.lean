/- Words of my own: what a law's argument of any kind (slices of structs, structs, slices of slices) says when it is opened: its cells are of the printed kind, and its numbers, strings and lengths are in their bounds. -/
import Derived.Test.YtghcagmnhaphbaaWMore
import Derived.SizedLaws
import Derived.ChangeSlices
import Derived.ChangeArms
import Derived.DataReads
import Derived.WideShapes
import Derived.Deep.Slices
import Derived.ShutString
namespace Go.Proofs.YtghcagmnhaphbaaW.PrintWords
open Go.RowKit Go.ChangeShapes Go.WideShapes Go.Deep
/-- What is read at type t: its cells are of kind d, and G is known of it. -/
def Opens (P : Program) {α : Type} (t : TypeId) (d : Kd α) (G : α → Prop) : Prop :=
  ∀ {H : Type} (enc : TypeId × Value → H) (w : World) (spare : Nat → Bool) (held : Bool) (fuel : Nat) (cs : List Value) (x : DataW H × List MemPlace),
    DataW.trod enc P w 0 spare held fuel t cs = some x → (∀ n ∈ x.1.weights P t, n ≤ reachBytes) → ∃ a : α, d.K w a cs ∧ G a
theorem opens_int {P : Program} {t : TypeId} {k : IntKind} (ht : P.underlying t = some (.int k)) : Opens P t (Kd.int k) (fun n => (Lit.int k n).wf = true) := by
  intro H enc w spare held fuel cs x h _
  obtain ⟨n, rfl, _, hw⟩ := DataW.trod_int ht h
  exact ⟨n, rfl, hw⟩
theorem opens_bool {P : Program} {t : TypeId} (ht : P.underlying t = some .bool) : Opens P t Kd.bool (fun _ => True) := by
  intro H enc w spare held fuel cs x h _
  obtain ⟨b, rfl, _⟩ := DataW.trod_bool ht h
  exact ⟨b, rfl, trivial⟩
theorem opens_string {P : Program} {t : TypeId} (ht : P.underlying t = some .string) : Opens P t Kd.string (fun s => s.size ≤ 140737488351232) := by
  intro H enc w spare held fuel cs x h hw
  obtain ⟨s, rfl, rfl, _⟩ := DataW.trod_string ht h
  refine ⟨s, rfl, ?_⟩
  have := hw s.data.toList.length (by simp [DataW.weights])
  rw [Array.length_toList] at this
  exact this
/-- A struct that is an argument. -/
theorem opens_agg {P : Program} {α : Type} {t : TypeId} {fs : Array Field} {d : Kd α} {G : α → Prop} (ht : P.underlying t = some (.struct fs)) (ho : Opens P t d G) {H : Type} {enc : TypeId × Value → H} {W : World} {base : Nat} {spare : Nat → Bool} {held : Bool} {r : Reach} {v : Value} {x : DataW H} {ps : List MemPlace} {ts : List TypeId} {ds : List (DataW H)} {j : Nat}
    (hv : Value.okWide P W r base t v) (h : DataW.Trod enc P W 0 spare held t v x ps) (hsz : (DataW.weightsEach P ts ds).all (· ≤ reachBytes) = true) (hts : ts[j]? = some t) (hds : ds[j]? = some x) :
    ∃ (cs : List Value) (a : α), v = .agg cs.toArray ∧ d.K W a cs ∧ G a := by
  obtain ⟨cs, rfl, _⟩ := okWide_struct ht hv
  obtain ⟨fuel, hf⟩ := h
  obtain ⟨a, hK, hG⟩ := ho enc W spare held fuel _ _ hf (fun n hn => by
    have := List.all_eq_true.1 hsz n (DataW.weights_mem_each hts hds n hn)
    simpa using this)
  exact ⟨cs.toList, a, by simp, by simpa [Value.cells] using hK, hG⟩
theorem weights_at {H : Type} {P : Program} {t : TypeId} {fs : Array Field} (ht : P.underlying t = some (.struct fs)) {xs : List (DataW H × List MemPlace)} (hw : ∀ n ∈ (DataW.agg (xs.map (·.1))).weights P t, n ≤ reachBytes) {i : Nat} {f : Field} {y : DataW H × List MemPlace} (hf : fs[i]? = some f) (hy : xs[i]? = some y) :
    ∀ n ∈ y.1.weights P f.type, n ≤ reachBytes := by
  intro n hn
  refine hw n ?_
  simp only [DataW.weights, ht]
  exact DataW.weights_mem_each (j := i) (t := f.type) (d := y.1) (by simp [hf]) (by simp [hy]) n hn
theorem cut_at (cs : List Value) (O S R : Nat) (h : O + S = R) : cs.drop O = (cs.drop O).take S ++ cs.drop R := by
  subst h
  rw [← List.drop_drop]
  exact (List.take_append_drop S _).symm
theorem cut_first (cs : List Value) (S : Nat) : cs = (cs.drop 0).take S ++ cs.drop S := (List.take_append_drop S cs).symm
theorem cut_last {cs : List Value} {O S n : Nat} (hl : cs.length = n) (h : n = O + S) : (cs.drop O).take S = cs.drop O := List.take_of_length_le (by rw [List.length_drop]; omega)
/-- A struct's field that is read. -/
theorem opens_field {P : Program} {α H : Type} {enc : TypeId × Value → H} {w : World} {spare : Nat → Bool} {held : Bool} {t : TypeId} {fs : Array Field} {n : Nat} {cs : List Value} {xs : List (DataW H × List MemPlace)} {d : Kd α} {G : α → Prop} (ht : P.underlying t = some (.struct fs))
    (hw : ∀ n ∈ (DataW.agg (xs.map (·.1))).weights P t, n ≤ reachBytes) (hxl : xs.length = fs.size) (hf : ∀ (i : Nat) (f : Field), fs[i]? = some f → DataW.trod enc P w 0 spare held n f.type ((cs.drop f.offset).take (P.cellsOf f.type)) = xs[i]?) {i : Nat} {f : Field} {T O S : Nat} (hi : fs[i]? = some f) (hT : f.type = T) (hO : f.offset = O) (hS : P.cellsOf T = S) (ho : Opens P T d G) :
    ∃ a : α, d.K w a ((cs.drop O).take S) ∧ G a := by
  subst hT; subst hO; subst hS
  have hil : i < xs.length := by rw [hxl]; exact (Array.getElem?_eq_some_iff.1 hi).1
  have hy : xs[i]? = some xs[i] := List.getElem?_eq_getElem hil
  have h1 := hf i f hi
  rw [hy] at h1
  exact ho enc w spare held n _ _ h1 (weights_at ht hw hi hy)
end Go.Proofs.YtghcagmnhaphbaaW.PrintWords
