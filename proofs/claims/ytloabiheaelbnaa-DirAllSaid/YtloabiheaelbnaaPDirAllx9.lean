-- Written by myprint.py (the prover's own turn of the printer); not trusted: Lean checks it.
import Derived.Test.YtloabiheaelbnaaPDirAllx0
import Derived.Test.YtloabiheaelbnaaPDirAllx8
namespace Go.Proofs.Ytloabiheaelbnaa.PDirAll
open Go.RowKit Go.Proofs.YtloabiheaelbnaaW.PrintWords Go.Proofs.YtloabiheaelbnaaW.PrintLast Go.Proofs.YtloabiheaelbnaaW.PrintMore
attribute [local go_sem] str_leq op_leq op_gtr op_geq max2_int min2_int max_two min_two max_three min_three max_four min_four   -- for this text's walks alone
set_option linter.unusedVariables false
set_option linter.unusedSimpArgs false

def g30 (x : S30) : Prop := ((Lit.int .i64 x.f0).wf = true) ∧ ((Lit.int .i64 x.f1).wf = true)
theorem o30 : Opens Try.prog 30 k30 g30 := by
 intro H enc w spare held fuel cs x h hw
 obtain ⟨xs, n, _, rfl, hlen, hxl, hf⟩ := DataW.trod_struct Try.underlying30 h
 have hn : cs.length = 2 := hlen.trans (by kernel_rfl)
 obtain ⟨a0, K0, G0⟩ := opens_field Try.underlying30 hw hxl hf (i := 0) (T := 3) (O := 0) (S := 1) rfl rfl rfl (by kernel_rfl) (opens_int Try.underlying3)
 obtain ⟨a1, K1, G1⟩ := opens_field Try.underlying30 hw hxl hf (i := 1) (T := 3) (O := 1) (S := 1) rfl rfl rfl (by kernel_rfl) (opens_int Try.underlying3)
 rw [cut_last hn (by rfl)] at K1
 exact ⟨⟨a0, a1⟩, ⟨_, _, cut_first cs 1, K0, K1⟩, G0, G1⟩
def g32 (x : S32) : Prop := (x.f0.size ≤ 140737488351232) ∧ ((Lit.int .i64 x.f1).wf = true) ∧ (g30 x.f2)
theorem o32 : Opens Try.prog 32 k32 g32 := by
 intro H enc w spare held fuel cs x h hw
 obtain ⟨xs, n, _, rfl, hlen, hxl, hf⟩ := DataW.trod_struct Try.underlying32 h
 have hn : cs.length = 4 := hlen.trans (by kernel_rfl)
 obtain ⟨a0, K0, G0⟩ := opens_field Try.underlying32 hw hxl hf (i := 0) (T := 9) (O := 0) (S := 1) rfl rfl rfl (by kernel_rfl) (opens_string Try.underlying9)
 obtain ⟨a1, K1, G1⟩ := opens_field Try.underlying32 hw hxl hf (i := 1) (T := 3) (O := 1) (S := 1) rfl rfl rfl (by kernel_rfl) (opens_int Try.underlying3)
 obtain ⟨a2, K2, G2⟩ := opens_field Try.underlying32 hw hxl hf (i := 2) (T := 30) (O := 2) (S := 2) rfl rfl rfl (by kernel_rfl) o30
 rw [cut_last hn (by rfl)] at K2
 exact ⟨⟨a0, a1, a2⟩, ⟨_, _, cut_first cs 1, K0, ⟨_, _, cut_at cs 1 1 2 rfl, K1, K2⟩⟩, G0, G1, G2⟩
/-- THE ONE PURE STATEMENT of recensionlaw23_DirAll: yours. -/
def recensionlaw23_DirAll.Pure : Prop := ∀ (l0 : List (S32)) (l1 : List (S32)) (a2 : ByteArray), (l0.length ≤ maxLen ∧ l0.length * 40 ≤ 140737488351232 ∧ ∀ y_ ∈ l0, g32 y_) → (l1.length ≤ maxLen ∧ l1.length * 40 ≤ 140737488351232 ∧ ∀ y_ ∈ l1, g32 y_) → (a2.size ≤ 140737488351232) → ∃ k, recensionlaw23_DirAll.f k l0 l1 a2 = some true
theorem recensionlaw23_DirAll.walk (P : recensionlaw23_DirAll.Pure) (A0 : Option Addr) (c0 : Nat) (l0 : List (S32)) (A1 : Option Addr) (c1 : Nat) (l1 : List (S32)) (a2 : ByteArray) (w : World) (hr0 : Kd.C k32 w A0 l0.length l0) (hc0 : l0.length ≤ c0) (G0 : l0.length ≤ maxLen ∧ l0.length * 40 ≤ 140737488351232 ∧ ∀ y_ ∈ l0, g32 y_) (hr1 : Kd.C k32 w A1 l1.length l1) (hc1 : l1.length ≤ c1) (G1 : l1.length ≤ maxLen ∧ l1.length * 40 ≤ 140737488351232 ∧ ∀ y_ ∈ l1, g32 y_) (G2 : a2.size ≤ 140737488351232) :
  Calls Try.prog 3 #[.slice A0 l0.length c0, .slice A1 l1.length c1, .string a2] w fun e w' => e = .returned (.bool true) ∧ Below w.heap.size w w' := by
 obtain ⟨k, h⟩ := P l0 l1 a2 G0 G1 G2
 refine (recensionlaw23_DirAll.calls k A0 c0 l0 A1 c1 l1 a2 true w hr0 hc0 hr1 hc1 ⟨rfl⟩ h).mono ?_
 rintro e w' ⟨rfl, hd⟩
 exact ⟨rfl, hd⟩
end Go.Proofs.Ytloabiheaelbnaa.PDirAll
