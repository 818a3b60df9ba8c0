-- Written by myprint.py (the prover's own turn of the printer); not trusted: Lean checks it.
import Derived.Test.YteikeoeidaaiaaaPMergex0
import Derived.Test.YteikeoeidaaiaaaPMergex5
namespace Go.Proofs.Yteikeoeidaaiaaa.PMerge
open Go.RowKit Go.Proofs.YteikeoeidaaiaaaW.PrintWords Go.Proofs.YteikeoeidaaiaaaW.PrintLast Go.Proofs.YteikeoeidaaiaaaW.PrintMore
attribute [local go_sem] str_leq op_leq op_gtr op_geq max2_int min2_int max_two min_two max_three min_three max_four min_four   -- for this text's walks alone
set_option linter.unusedVariables false
set_option linter.unusedSimpArgs false

def g29 (x : S29) : Prop := ((Lit.int .i64 x.f0).wf = true) ∧ ((Lit.int .i64 x.f1).wf = true) ∧ (x.f2.size ≤ 140737488351232)
theorem o29 : Opens Try.prog 29 k29 g29 := by
 intro H enc w spare held fuel cs x h hw
 obtain ⟨xs, n, _, rfl, hlen, hxl, hf⟩ := DataW.trod_struct Try.underlying29 h
 have hn : cs.length = 3 := hlen.trans (by kernel_rfl)
 obtain ⟨a0, K0, G0⟩ := opens_field Try.underlying29 hw hxl hf (i := 0) (T := 3) (O := 0) (S := 1) rfl rfl rfl (by kernel_rfl) (opens_int Try.underlying3)
 obtain ⟨a1, K1, G1⟩ := opens_field Try.underlying29 hw hxl hf (i := 1) (T := 3) (O := 1) (S := 1) rfl rfl rfl (by kernel_rfl) (opens_int Try.underlying3)
 obtain ⟨a2, K2, G2⟩ := opens_field Try.underlying29 hw hxl hf (i := 2) (T := 9) (O := 2) (S := 1) rfl rfl rfl (by kernel_rfl) (opens_string Try.underlying9)
 rw [cut_last hn (by rfl)] at K2
 exact ⟨⟨a0, a1, a2⟩, ⟨_, _, cut_first cs 1, K0, ⟨_, _, cut_at cs 1 1 2 rfl, K1, K2⟩⟩, G0, G1, G2⟩
/-- THE ONE PURE STATEMENT of recensionlaw9_MergeQueue: yours. -/
def recensionlaw9_MergeQueue.Pure : Prop := ∀ (l0 : List (S29)) (l1 : List Bool), (l0.length ≤ maxLen ∧ l0.length * 32 ≤ 140737488351232 ∧ ∀ y_ ∈ l0, g29 y_) → (l1.length ≤ maxLen ∧ l1.length * 1 ≤ 140737488351232 ∧ ∀ y_ ∈ l1, True) → ∃ k, recensionlaw9_MergeQueue.f k l0 l1 = some true
theorem recensionlaw9_MergeQueue.walk (P : recensionlaw9_MergeQueue.Pure) (A0 : Option Addr) (c0 : Nat) (l0 : List (S29)) (A1 : Option Addr) (c1 : Nat) (l1 : List Bool) (w : World) (hr0 : Kd.C k29 w A0 l0.length l0) (hc0 : l0.length ≤ c0) (G0 : l0.length ≤ maxLen ∧ l0.length * 32 ≤ 140737488351232 ∧ ∀ y_ ∈ l0, g29 y_) (hr1 : Kd.C Kd.bool w A1 l1.length l1) (hc1 : l1.length ≤ c1) (G1 : l1.length ≤ maxLen ∧ l1.length * 1 ≤ 140737488351232 ∧ ∀ y_ ∈ l1, True) :
  Calls Try.prog 3 #[.slice A0 l0.length c0, .slice A1 l1.length c1] w fun e w' => e = .returned (.bool true) ∧ Below w.heap.size w w' := by
 obtain ⟨k, h⟩ := P l0 l1 G0 G1
 refine (recensionlaw9_MergeQueue.calls k A0 c0 l0 A1 c1 l1 true w hr0 hc0 hr1 hc1 ⟨rfl⟩ h).mono ?_
 rintro e w' ⟨rfl, hd⟩
 exact ⟨rfl, hd⟩
end Go.Proofs.Yteikeoeidaaiaaa.PMerge
