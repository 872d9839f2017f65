/- Two pairs that are the same, compared. -/
import Derived.Test.YtmghnbdbhdljjaaLr
import Derived.ChangeKeysEq
namespace Go.Proofs.Ytmghnbdbhdljjaa.Li
open Go.RowKit Go.Proofs.YtmghnbdbhdljjaaW.PrintWords Go.Proofs.YtmghnbdbhdljjaaW.PrintLast Go.Proofs.YtmghnbdbhdljjaaW.PrintMore Go.Proofs.Ytmghnbdbhdljjaa.HS
set_option linter.unusedVariables false
set_option linter.unusedSimpArgs false
theorem part_u64 {xs : Array Value} {off : Nat} {v : Value} (hx : xs[off]? = some v) (w : World) : (part 22 xs off).run Try.prog w = .ok v w := by
  simp [part, isAgg, run_underlying Try.underlying22, hx]
theorem eq_u64 (d : Nat) (a : Int) (w : World) : (Op.equalIn (d + 1) 22 (.int .u64 a) (.int .u64 a)).run Try.prog w = .ok true w := by
  simp [Op.equalIn, run_underlying Try.underlying22]
theorem cells_u64 : Try.prog.cellsOf 22 = 1 := by kernel_rfl
theorem neq_self (a b : Int) (w : World) : (Go.binOp .neq 51 (.agg #[.int .u64 a, .int .u64 b]) (.agg #[.int .u64 a, .int .u64 b])).run Try.prog w = .ok (.bool false) w := by
  obtain ⟨i, hi, _⟩ := info_parts (show (Try.prog.info? 22).map (fun i => (i.zero, i.size, i.bytes)) = some (some (.int .u64 0), 1, 8) by kernel_rfl)
  have h : (Op.equalIn 10000 51 (.agg #[.int .u64 a, .int .u64 b]) (.agg #[.int .u64 a, .int .u64 b])).run Try.prog w = .ok true w := by
    rw [show (10000 : Nat) = 9998 + 1 + 1 from rfl, run_equalIn_array (P := Try.prog) w (9998 + 1) _ _ Try.underlying51 hi, cells_u64, show List.range 2 = [0, 1] from rfl]
    simp [Op.eqItems, Sem.run_bind, part_u64 (xs := #[Value.int .u64 a, Value.int .u64 b]) (off := 0) rfl, part_u64 (xs := #[Value.int .u64 a, Value.int .u64 b]) (off := 1) rfl, eq_u64]
  simp only [Go.binOp]
  simp [Op.equal, Op.maxDepth, h]
end Go.Proofs.Ytmghnbdbhdljjaa.Li
