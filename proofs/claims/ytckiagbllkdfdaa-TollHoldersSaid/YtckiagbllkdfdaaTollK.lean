/-
  Structs that are the same: what != says.
-/
import Derived.Test.YtckiagbllkdfdaaTollJ
namespace Go.Proofs.Ytckiagbllkdfdaa
set_option linter.all false
set_option linter.unusedVariables false
set_option linter.unusedSimpArgs false
open Go.RowKit
set_option maxRecDepth 100000
theorem neClaim (x y : Operand) (v : (Nat → Int) × Bool) (w : World) : (do eqGuard .neq 62 x y (.agg (claimL v).toArray) (.agg (claimL v).toArray); binOp .neq 62 (.agg (claimL v).toArray) (.agg (claimL v).toArray) : Sem Value).run Try.prog w = .ok (.bool false) w := by
  unfold claimL
  go_simp
theorem neFeud (x y : Operand) (v : Nat → Int) (w : World) : (do eqGuard .neq 72 x y (.agg (feudL v).toArray) (.agg (feudL v).toArray); binOp .neq 72 (.agg (feudL v).toArray) (.agg (feudL v).toArray) : Sem Value).run Try.prog w = .ok (.bool false) w := by
  unfold feudL
  go_simp
theorem neBorder (x y : Operand) (v : Nat → Int) (w : World) : (do eqGuard .neq 77 x y (.agg (borderL v).toArray) (.agg (borderL v).toArray); binOp .neq 77 (.agg (borderL v).toArray) (.agg (borderL v).toArray) : Sem Value).run Try.prog w = .ok (.bool false) w := by
  unfold borderL
  go_simp
theorem neWell (x y : Operand) (v : Nat → Int) (w : World) : (do eqGuard .neq 83 x y (.agg (wellL v).toArray) (.agg (wellL v).toArray); binOp .neq 83 (.agg (wellL v).toArray) (.agg (wellL v).toArray) : Sem Value).run Try.prog w = .ok (.bool false) w := by
  unfold wellL
  go_simp
theorem neGate (x y : Operand) (v : Nat → Int) (w : World) : (do eqGuard .neq 85 x y (.agg (gateL v).toArray) (.agg (gateL v).toArray); binOp .neq 85 (.agg (gateL v).toArray) (.agg (gateL v).toArray) : Sem Value).run Try.prog w = .ok (.bool false) w := by
  unfold gateL
  go_simp
theorem neSpan (x y : Operand) (a b : Int) (w : World) : (do eqGuard .neq 56 x y (.agg #[.int .i64 a, .int .i64 b]) (.agg #[.int .i64 a, .int .i64 b]); binOp .neq 56 (.agg #[.int .i64 a, .int .i64 b]) (.agg #[.int .i64 a, .int .i64 b]) : Sem Value).run Try.prog w = .ok (.bool false) w := by
  go_simp
end Go.Proofs.Ytckiagbllkdfdaa
