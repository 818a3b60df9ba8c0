-- Written by myprint.py (the prover's own turn of the printer); not trusted: Lean checks it.
import Derived.Test.YtohhnblaoihgbaaDoorPScanCoversx0
import Derived.Test.YtohhnblaoihgbaaDoorPScanCoversx7
namespace Go.Proofs.YtohhnblaoihgbaaDoor.PScanCovers
open Go.RowKit Go.Proofs.YtohhnblaoihgbaaDoorW.PrintWords Go.Proofs.YtohhnblaoihgbaaDoorW.PrintLast Go.Proofs.YtohhnblaoihgbaaDoorW.PrintMore
attribute [local go_sem] str_leq op_leq op_gtr op_geq max2_int min2_int max_two min_two max_three min_three max_four min_four   -- for this text's walks alone
set_option linter.unusedVariables false
set_option linter.unusedSimpArgs false

/-- THE ONE PURE STATEMENT of recensionlaw6_ScanCovers: yours. -/
def recensionlaw6_ScanCovers.Pure : Prop := ∀ (a0 : ByteArray), (a0.size ≤ 140737488351232) → recensionlaw6_ScanCovers.f a0 = some true
theorem recensionlaw6_ScanCovers.walk (P : recensionlaw6_ScanCovers.Pure) (a0 : ByteArray) (w : World) (G0 : a0.size ≤ 140737488351232) (hT : Tabs w) :
  Calls Tryd.prog 8 #[.string a0] w fun e w' => e = .returned (.bool true) ∧ Below w.heap.size w w' := by
 have h := P a0 G0
 refine (recensionlaw6_ScanCovers.calls a0 true w  ⟨rfl⟩ ⟨hT⟩ h).mono ?_
 rintro e w' ⟨rfl, hd⟩
 exact ⟨rfl, hd⟩
end Go.Proofs.YtohhnblaoihgbaaDoor.PScanCovers
