/- THE TYPES OF THE SEAT span. -/
import Derived.Test.YtcpogfjlehoabaaAm29
import Derived.Test.YtcpogfjlehoabaaRows
namespace Go.Proofs.Ytcpogfjlehoabaa
open Go.Am
def tabL : List (Nat × TI) := [
  (3, { kind := .int .i64, size := 1, zero := [.int .i64 0] }),
  (4, { kind := .bool, size := 1, zero := [.bool false] }),
  (22, { kind := .slice, size := 1, zero := [.nilsl], esize := 2, eagg := true, ebytes := 16, ezero := [.int .i64 0, .int .i64 0] }),
  (23, { kind := .int .i64, size := 1, zero := [.int .i64 0] }),
  (46, { kind := .struct, size := 2, zero := [.int .i64 0, .int .i64 0], flds := [(0, 1, false), (1, 1, false)], eqs := some [some .i64, some .i64] }),
  (50, { kind := .func, size := 1, zero := [.nilf] }),
  (52, { kind := .func, size := 1, zero := [.nilf] }),
  (55, { kind := .slice, size := 1, zero := [.nilsl], esize := 1, eagg := false, ebytes := 8, ezero := [.int .i64 0] }),
  (57, { kind := .slice, size := 1, zero := [.nilsl], esize := 1, eagg := false, ebytes := 1, ezero := [.bool false] }),
  (61, { kind := .array, size := 2, zero := [.int .i64 0, .int .i64 0], len := 2, esize := 1, eagg := false, eqs := none }),
  (62, { kind := .func, size := 1, zero := [.nilf] }),
  (63, { kind := .func, size := 1, zero := [.nilf] }),
  (66, { kind := .struct, size := 3, zero := [.int .i64 0, .int .i64 0, .int .i64 0], flds := [(0, 1, false), (1, 1, false), (2, 1, false)], eqs := some [some .i64, some .i64, some .i64] }),
  (68, { kind := .slice, size := 1, zero := [.nilsl], esize := 1, eagg := false, ebytes := 24, ezero := [.nilsl] }),
  (69, { kind := .slice, size := 1, zero := [.nilsl], esize := 3, eagg := true, ebytes := 24, ezero := [.int .i64 0, .int .i64 0, .int .i64 0] }),
  (71, { kind := .func, size := 1, zero := [.nilf] }),
  (72, { kind := .func, size := 1, zero := [.nilf] }),
  (76, { kind := .int .u64, size := 1, zero := [.int .u64 0] }),
  (77, { kind := .func, size := 1, zero := [.nilf] }),
  (79, { kind := .int .i64, size := 1, zero := [.int .i64 0] }),
  (87, { kind := .int .u32, size := 1, zero := [.int .u32 0] }),
  (89, { kind := .int .u64, size := 1, zero := [.int .u64 0] }),
  (94, { kind := .ptr, size := 1, zero := [.nilp] })]
def tab : Tab := tabOf tabL
theorem tab_rows : tabL.map (fun x => tiOf Try.prog x.1) = tabL.map (fun x => some x.2) := by kernel_rfl
theorem tabOk : TabOk Try.prog tab := tab_ok tab_rows
theorem mixed : Try.prog.follows .mixedOrders = true := by kernel_rfl
end Go.Proofs.Ytcpogfjlehoabaa
