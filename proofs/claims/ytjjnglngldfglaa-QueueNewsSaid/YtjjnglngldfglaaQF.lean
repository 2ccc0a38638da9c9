/- Type assertions on the stages. -/
import Derived.Test.YtjjnglngldfglaaQD
namespace Go.Proofs.Ytjjnglngldfglaa.P
open Go Go.RowKit

theorem ta_80_80 (v : Value) (W : World) : (Instr.typeAssert (.iface 80 v) 74 80 true).run Try.prog W = .ok (.tuple #[v, .bool true]) W := by kernel_rfl
theorem ta_81_80 (v : Value) (W : World) : (Instr.typeAssert (.iface 81 v) 74 80 true).run Try.prog W = .ok (.tuple #[.agg #[], .bool false]) W := by kernel_rfl
theorem ta_81_81 (v : Value) (W : World) : (Instr.typeAssert (.iface 81 v) 74 81 true).run Try.prog W = .ok (.tuple #[v, .bool true]) W := by kernel_rfl
theorem ta_83_80 (v : Value) (W : World) : (Instr.typeAssert (.iface 83 v) 74 80 true).run Try.prog W = .ok (.tuple #[.agg #[], .bool false]) W := by kernel_rfl
theorem ta_83_81 (v : Value) (W : World) : (Instr.typeAssert (.iface 83 v) 74 81 true).run Try.prog W = .ok (.tuple #[.agg #[], .bool false]) W := by kernel_rfl
theorem ta_83_83 (v : Value) (W : World) : (Instr.typeAssert (.iface 83 v) 74 83 true).run Try.prog W = .ok (.tuple #[v, .bool true]) W := by kernel_rfl
theorem ta_85_80 (v : Value) (W : World) : (Instr.typeAssert (.iface 85 v) 74 80 true).run Try.prog W = .ok (.tuple #[.agg #[], .bool false]) W := by kernel_rfl
theorem ta_85_81 (v : Value) (W : World) : (Instr.typeAssert (.iface 85 v) 74 81 true).run Try.prog W = .ok (.tuple #[.agg #[], .bool false]) W := by kernel_rfl
theorem ta_85_83 (v : Value) (W : World) : (Instr.typeAssert (.iface 85 v) 74 83 true).run Try.prog W = .ok (.tuple #[.agg #[.int .i64 0, .int .i64 0], .bool false]) W := by kernel_rfl
theorem ta_85_85 (v : Value) (W : World) : (Instr.typeAssert (.iface 85 v) 74 85 true).run Try.prog W = .ok (.tuple #[v, .bool true]) W := by kernel_rfl
theorem ta_86_80 (v : Value) (W : World) : (Instr.typeAssert (.iface 86 v) 74 80 true).run Try.prog W = .ok (.tuple #[.agg #[], .bool false]) W := by kernel_rfl
theorem ta_86_81 (v : Value) (W : World) : (Instr.typeAssert (.iface 86 v) 74 81 true).run Try.prog W = .ok (.tuple #[.agg #[], .bool false]) W := by kernel_rfl
theorem ta_86_83 (v : Value) (W : World) : (Instr.typeAssert (.iface 86 v) 74 83 true).run Try.prog W = .ok (.tuple #[.agg #[.int .i64 0, .int .i64 0], .bool false]) W := by kernel_rfl
theorem ta_86_85 (v : Value) (W : World) : (Instr.typeAssert (.iface 86 v) 74 85 true).run Try.prog W = .ok (.tuple #[.agg #[.int .i64 0], .bool false]) W := by kernel_rfl
theorem ta_86_86 (v : Value) (W : World) : (Instr.typeAssert (.iface 86 v) 74 86 true).run Try.prog W = .ok (.tuple #[v, .bool true]) W := by kernel_rfl
theorem ta_88_80 (v : Value) (W : World) : (Instr.typeAssert (.iface 88 v) 74 80 true).run Try.prog W = .ok (.tuple #[.agg #[], .bool false]) W := by kernel_rfl
theorem ta_88_81 (v : Value) (W : World) : (Instr.typeAssert (.iface 88 v) 74 81 true).run Try.prog W = .ok (.tuple #[.agg #[], .bool false]) W := by kernel_rfl
theorem ta_88_83 (v : Value) (W : World) : (Instr.typeAssert (.iface 88 v) 74 83 true).run Try.prog W = .ok (.tuple #[.agg #[.int .i64 0, .int .i64 0], .bool false]) W := by kernel_rfl
theorem ta_88_85 (v : Value) (W : World) : (Instr.typeAssert (.iface 88 v) 74 85 true).run Try.prog W = .ok (.tuple #[.agg #[.int .i64 0], .bool false]) W := by kernel_rfl
theorem ta_88_86 (v : Value) (W : World) : (Instr.typeAssert (.iface 88 v) 74 86 true).run Try.prog W = .ok (.tuple #[.agg #[], .bool false]) W := by kernel_rfl
theorem ta_88_88 (v : Value) (W : World) : (Instr.typeAssert (.iface 88 v) 74 88 true).run Try.prog W = .ok (.tuple #[v, .bool true]) W := by kernel_rfl
theorem ta_89_80 (v : Value) (W : World) : (Instr.typeAssert (.iface 89 v) 74 80 true).run Try.prog W = .ok (.tuple #[.agg #[], .bool false]) W := by kernel_rfl
theorem ta_89_81 (v : Value) (W : World) : (Instr.typeAssert (.iface 89 v) 74 81 true).run Try.prog W = .ok (.tuple #[.agg #[], .bool false]) W := by kernel_rfl
theorem ta_89_83 (v : Value) (W : World) : (Instr.typeAssert (.iface 89 v) 74 83 true).run Try.prog W = .ok (.tuple #[.agg #[.int .i64 0, .int .i64 0], .bool false]) W := by kernel_rfl
theorem ta_89_85 (v : Value) (W : World) : (Instr.typeAssert (.iface 89 v) 74 85 true).run Try.prog W = .ok (.tuple #[.agg #[.int .i64 0], .bool false]) W := by kernel_rfl
theorem ta_89_86 (v : Value) (W : World) : (Instr.typeAssert (.iface 89 v) 74 86 true).run Try.prog W = .ok (.tuple #[.agg #[], .bool false]) W := by kernel_rfl
theorem ta_89_88 (v : Value) (W : World) : (Instr.typeAssert (.iface 89 v) 74 88 true).run Try.prog W = .ok (.tuple #[.agg #[.int .i64 0], .bool false]) W := by kernel_rfl
theorem ta_89_89 (v : Value) (W : World) : (Instr.typeAssert (.iface 89 v) 74 89 true).run Try.prog W = .ok (.tuple #[v, .bool true]) W := by kernel_rfl
theorem ta_78_80 (v : Value) (W : World) : (Instr.typeAssert (.iface 78 v) 74 80 true).run Try.prog W = .ok (.tuple #[.agg #[], .bool false]) W := by kernel_rfl
theorem ta_78_81 (v : Value) (W : World) : (Instr.typeAssert (.iface 78 v) 74 81 true).run Try.prog W = .ok (.tuple #[.agg #[], .bool false]) W := by kernel_rfl
theorem ta_78_83 (v : Value) (W : World) : (Instr.typeAssert (.iface 78 v) 74 83 true).run Try.prog W = .ok (.tuple #[.agg #[.int .i64 0, .int .i64 0], .bool false]) W := by kernel_rfl
theorem ta_78_85 (v : Value) (W : World) : (Instr.typeAssert (.iface 78 v) 74 85 true).run Try.prog W = .ok (.tuple #[.agg #[.int .i64 0], .bool false]) W := by kernel_rfl
theorem ta_78_86 (v : Value) (W : World) : (Instr.typeAssert (.iface 78 v) 74 86 true).run Try.prog W = .ok (.tuple #[.agg #[], .bool false]) W := by kernel_rfl
theorem ta_78_88 (v : Value) (W : World) : (Instr.typeAssert (.iface 78 v) 74 88 true).run Try.prog W = .ok (.tuple #[.agg #[.int .i64 0], .bool false]) W := by kernel_rfl
theorem ta_78_89 (v : Value) (W : World) : (Instr.typeAssert (.iface 78 v) 74 89 true).run Try.prog W = .ok (.tuple #[.agg #[.int .i64 0], .bool false]) W := by kernel_rfl
theorem ta_78_78 (v : Value) (W : World) : (Instr.typeAssert (.iface 78 v) 74 78 true).run Try.prog W = .ok (.tuple #[v, .bool true]) W := by kernel_rfl
end Go.Proofs.Ytjjnglngldfglaa.P
