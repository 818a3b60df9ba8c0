/- Words of my own beside the printed ones: a string appended to a row of bytes, told as a row that may be anybody's, in the text's order and as one step of a region that draws. -/
import Derived.Test.YteikeoeidaaiaaaWMore
namespace Go.Proofs.YteikeoeidaaiaaaW.PrintWords
open Go.RowKit
/-- 'no greater', as 'not behind'. -/
theorem str_leq (a : List UInt8) : ∀ b, (Op.bytesLess a b || a == b) = !(Op.bytesLess b a) := by
  induction a with
  | nil => intro b; cases b <;> simp [Op.bytesLess]
  | cons x a ih =>
    intro b
    cases b with
    | nil => simp [Op.bytesLess]
    | cons y b =>
      have := ih b
      rcases Nat.lt_trichotomy x.toNat y.toNat with h | h | h
      · have h1 : x < y := UInt8.lt_iff_toNat_lt.2 h
        have h2 : ¬ y < x := by rw [UInt8.lt_iff_toNat_lt]; omega
        have h3 : ¬ y = x := fun e => by subst e; omega
        simp [Op.bytesLess, h1, h2, h3]
      · obtain rfl := UInt8.toNat_inj.1 h
        have h2 : ¬ x < x := by rw [UInt8.lt_iff_toNat_lt]; omega
        simp [Op.bytesLess, h2, ← this]
      · have h1 : y < x := UInt8.lt_iff_toNat_lt.2 h
        have h2 : ¬ x < y := by rw [UInt8.lt_iff_toNat_lt]; omega
        have h3 : ¬ x = y := fun e => by subst e; omega
        simp [Op.bytesLess, h1, h2, h3]
theorem op_leq (t : TypeId) (a b : ByteArray) : binOp .leq t (.string a) (.string b) = pure (.bool (!(Op.bytesLess b.toList a.toList))) := by simp [binOp, Op.stringOp, str_leq]
theorem op_gtr (t : TypeId) (a b : ByteArray) : binOp .gtr t (.string a) (.string b) = pure (.bool (Op.bytesLess b.toList a.toList)) := by simp [binOp, Op.stringOp, str_leq]
theorem op_geq (t : TypeId) (a b : ByteArray) : binOp .geq t (.string a) (.string b) = pure (.bool (!(Op.bytesLess a.toList b.toList))) := by simp [binOp, Op.stringOp]
namespace Kd
section
variable {P : Program} {ops : Array Oper} {rest : List Oper} {o : Oper} {a : Act} {Q : Exit → Act → World → Prop} {Kc : Act → World → Prop}
end
end Kd
theorem wrap64_wl (x y : Int) : Go.RowKit.wrap64 (Go.RowKit.wrap64 x + y) = Go.RowKit.wrap64 (x + y) := by unfold Go.RowKit.wrap64; omega
theorem wrap64_wr (x y : Int) : Go.RowKit.wrap64 (x + Go.RowKit.wrap64 y) = Go.RowKit.wrap64 (x + y) := by unfold Go.RowKit.wrap64; omega
end Go.Proofs.YteikeoeidaaiaaaW.PrintWords
