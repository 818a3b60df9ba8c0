-- Written by myprint.py (the prover's own turn of the printer); not trusted: Lean checks it.
import Derived.Test.YthjbcpakpfdkaaaPStackx0
import Derived.Test.YthjbcpakpfdkaaaPStackx9
namespace Go.Proofs.Ythjbcpakpfdkaaa.PStack
open Go.RowKit Go.Proofs.YthjbcpakpfdkaaaW.PrintWords Go.Proofs.YthjbcpakpfdkaaaW.PrintLast Go.Proofs.YthjbcpakpfdkaaaW.PrintMore
attribute [local go_sem] str_leq op_leq op_gtr op_geq max2_int min2_int max_two min_two max_three min_three max_four min_four   -- for this text's walks alone
set_option linter.unusedVariables false
set_option linter.unusedSimpArgs false

def g56 (x : S56) : Prop := (x.f0.size ≤ 140737488351232) ∧ (True) ∧ (True) ∧ (x.f3.size ≤ 140737488351232) ∧ (x.f4.size ≤ 140737488351232)
theorem o56 : Opens Try.prog 56 k56 g56 := by
 intro H enc w spare held fuel cs x h hw
 obtain ⟨xs, n, _, rfl, hlen, hxl, hf⟩ := DataW.trod_struct Try.underlying56 h
 have hn : cs.length = 5 := hlen.trans (by kernel_rfl)
 obtain ⟨a0, K0, G0⟩ := opens_field Try.underlying56 hw hxl hf (i := 0) (T := 9) (O := 0) (S := 1) rfl rfl rfl (by kernel_rfl) (opens_string Try.underlying9)
 obtain ⟨a1, K1, G1⟩ := opens_field Try.underlying56 hw hxl hf (i := 1) (T := 4) (O := 1) (S := 1) rfl rfl rfl (by kernel_rfl) (opens_bool Try.underlying4)
 obtain ⟨a2, K2, G2⟩ := opens_field Try.underlying56 hw hxl hf (i := 2) (T := 4) (O := 2) (S := 1) rfl rfl rfl (by kernel_rfl) (opens_bool Try.underlying4)
 obtain ⟨a3, K3, G3⟩ := opens_field Try.underlying56 hw hxl hf (i := 3) (T := 9) (O := 3) (S := 1) rfl rfl rfl (by kernel_rfl) (opens_string Try.underlying9)
 obtain ⟨a4, K4, G4⟩ := opens_field Try.underlying56 hw hxl hf (i := 4) (T := 9) (O := 4) (S := 1) rfl rfl rfl (by kernel_rfl) (opens_string Try.underlying9)
 rw [cut_last hn (by rfl)] at K4
 exact ⟨⟨a0, a1, a2, a3, a4⟩, ⟨_, _, cut_first cs 1, K0, ⟨_, _, cut_at cs 1 1 2 rfl, K1, ⟨_, _, cut_at cs 2 1 3 rfl, K2, ⟨_, _, cut_at cs 3 1 4 rfl, K3, K4⟩⟩⟩⟩, G0, G1, G2, G3, G4⟩
def g32 (x : S32) : Prop := ((Lit.int .i64 x.f0).wf = true) ∧ (x.f1.length ≤ maxLen ∧ x.f1.length * 56 ≤ 140737488351232 ∧ ∀ y_ ∈ x.f1, g56 y_)
theorem o32 : Opens Try.prog 32 k32 g32 := by
 intro H enc w spare held fuel cs x h hw
 obtain ⟨xs, n, _, rfl, hlen, hxl, hf⟩ := DataW.trod_struct Try.underlying32 h
 have hn : cs.length = 2 := hlen.trans (by kernel_rfl)
 obtain ⟨a0, K0, G0⟩ := opens_field Try.underlying32 hw hxl hf (i := 0) (T := 3) (O := 0) (S := 1) rfl rfl rfl (by kernel_rfl) (opens_int Try.underlying3)
 obtain ⟨a1, K1, G1⟩ := opens_field Try.underlying32 hw hxl hf (i := 1) (T := 30) (O := 1) (S := 1) rfl rfl rfl (by kernel_rfl) (opens_slice (B := 56) Try.underlying30 (by kernel_rfl) (by kernel_rfl) o56)
 rw [cut_last hn (by rfl)] at K1
 exact ⟨⟨a0, a1⟩, ⟨_, _, cut_first cs 1, K0, K1⟩, G0, G1⟩
/-- THE ONE PURE STATEMENT of recensionlaw25_StackAll: yours. -/
def recensionlaw25_StackAll.Pure : Prop := ∀ (l0 : List (S32)), (l0.length ≤ maxLen ∧ l0.length * 32 ≤ 140737488351232 ∧ ∀ y_ ∈ l0, g32 y_) → ∃ k, recensionlaw25_StackAll.f k l0 = some true
theorem recensionlaw25_StackAll.walk (P : recensionlaw25_StackAll.Pure) (A0 : Option Addr) (c0 : Nat) (l0 : List (S32)) (w : World) (hr0 : Kd.C k32 w A0 l0.length l0) (hc0 : l0.length ≤ c0) (G0 : l0.length ≤ maxLen ∧ l0.length * 32 ≤ 140737488351232 ∧ ∀ y_ ∈ l0, g32 y_) :
  Calls Try.prog 3 #[.slice A0 l0.length c0] w fun e w' => e = .returned (.bool true) ∧ Below w.heap.size w w' := by
 obtain ⟨k, h⟩ := P l0 G0
 refine (recensionlaw25_StackAll.calls k A0 c0 l0 true w hr0 hc0 ⟨rfl⟩ h).mono ?_
 rintro e w' ⟨rfl, hd⟩
 exact ⟨rfl, hd⟩
end Go.Proofs.Ythjbcpakpfdkaaa.PStack
