/- Words of my own: utf8's two tables in a world, what stands below a world; ranges over strings. -/
import Derived.Test.YtohhnblaoihgbaaDoorWShelf
import Derived.Test.YtohhnblaoihgbaaDoorWWords
import Derived.Laws.RangeAny
import Derived.Lib.OthersKept
import Derived.Lib.Hide
import Derived.Lib.LaidU8
import Derived.KernelRfl
namespace Go.Proofs.YtohhnblaoihgbaaDoorW.PrintWords
open Go.RowKit
def Tabs (w : World) : Prop := Lib.Utf8Tabs 0 1 w
theorem tabs_at {w w' : World} (hT : Tabs w) (hb : Below w.heap.size w w') : Tabs w' := by
  have hc : ∀ p v, w.cell? p = some v → w'.cell? p = some v := by
    intro p v e
    rw [hb.cell (p := p) (by
      apply Classical.byContradiction
      intro hn
      have : w.heap[p.block]? = none := by simp; omega
      simp [World.cell?, this] at e)]
    exact e
  exact ⟨fun c hc' => hc _ _ (hT.1 c hc'), fun i hi => ⟨hc _ _ (hT.2 i hi).1, hc _ _ (hT.2 i hi).2⟩⟩
theorem tabs_laid {l : List (String × DataW Unit)} {w : World} (hL : laidMet Tryd.prog l w) (d3 d4 : DataW Unit) (e3 : d3 = Lib.firstData) (e4 : d4 = Lib.acceptData) (h3 : ("unicode/utf8.first", d3) ∈ l) (h4 : ("unicode/utf8.acceptRanges", d4) ∈ l) : Tabs w := by
  subst e3 e4
  exact utf8Tabs_of_reads Tryd.lays260 ⟨by kernel_rfl, by kernel_rfl, by kernel_rfl, by kernel_rfl, by kernel_rfl, by kernel_rfl, by kernel_rfl⟩ (Lib.laidMet.reads hL h3) (Lib.laidMet.reads hL h4)
theorem decode_pos (s : ByteArray) (pos : Nat) (h : pos < s.size) : 1 ≤ (Utf8.decode s pos).2 := by
  by_cases ha : (s[pos]'h).toNat < 128
  · rw [decode_ascii s pos h ha]; exact Nat.le_refl _
  · exact (decode_high s pos h (by omega)).2
/-- The first fault from a place on; -1: none. -/
def faults (s : ByteArray) : Nat → Nat → Int
  | 0, _ => -1
  | k + 1, pos => if pos < s.size then (if ((Utf8.decode s pos).1 < 32 ∧ (Utf8.decode s pos).1 ≠ 9 ∧ (Utf8.decode s pos).1 ≠ 10) ∨ (Utf8.decode s pos).1 = 127 then (pos : Int) else if (Utf8.decode s pos).1 = 65533 ∧ (Lib.decodeGo (s.extract pos s.size)).2 = 1 then (pos : Int) else faults s k (pos + (Utf8.decode s pos).2)) else -1
theorem faults_end (s : ByteArray) (k pos : Nat) (h : ¬ pos < s.size) : faults s k pos = -1 := by
  cases k with
  | zero => rfl
  | succ k => simp [faults, h]
theorem fault_hit {r K : Nat} {p x y : Int} (h : (if (r < 32 ∧ r ≠ 9 ∧ r ≠ 10) ∨ r = 127 then p else if r = 65533 ∧ K = 1 then p else x) = y) (hc : ((r < 32 ∧ r ≠ 9 ∧ r ≠ 10) ∨ r = 127) ∨ (r = 65533 ∧ K = 1)) : p = y := by
  rcases hc with hc | hc
  · rwa [if_pos hc] at h
  · by_cases h1 : (r < 32 ∧ r ≠ 9 ∧ r ≠ 10) ∨ r = 127
    · rwa [if_pos h1] at h
    · rwa [if_neg h1, if_pos hc] at h
theorem fault_miss {r K : Nat} {p x y : Int} (h : (if (r < 32 ∧ r ≠ 9 ∧ r ≠ 10) ∨ r = 127 then p else if r = 65533 ∧ K = 1 then p else x) = y) (hc : ¬ (((r < 32 ∧ r ≠ 9 ∧ r ≠ 10) ∨ r = 127) ∨ (r = 65533 ∧ K = 1))) : x = y := by
  rwa [if_neg (fun e => hc (.inl e)), if_neg (fun e => hc (.inr e))] at h
end Go.Proofs.YtohhnblaoihgbaaDoorW.PrintWords
