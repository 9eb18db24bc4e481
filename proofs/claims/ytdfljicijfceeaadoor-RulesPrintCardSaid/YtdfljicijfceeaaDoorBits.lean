/- The base's own bits: isPowerOfTwo(16), TrailingZeros(16). -/
import Derived.Test.YtdfljicijfceeaaDoorKinds
namespace Go.Proofs.YtdfljicijfceeaaDoor
open Go.RowKit

theorem is_pow (w : World) : Calls Tryd.prog 82 #[.int .i64 16] w fun e w' => e = .returned (.bool true) ∧ w = w' := by
  have hb : bits BinOp.and IntKind.i64 16 15 = 0 := by decide +kernel
  go_enter Tryd.func82, Tryd.ntmps82
  go_wp2
  go_ret
  exact ⟨rfl, rfl⟩

theorem tz64 (w : World) (hd : w.cell? ⟨5, 15, none⟩ = some (.int .u8 4)) : Calls Tryd.prog 86 #[.int .u64 16] w fun e w' => e = .returned (.int .i64 4) ∧ w = w' := by
  have hb : bits BinOp.and IntKind.u64 16 (IntKind.u64.wrap (-16)) = 16 := by decide +kernel
  have hm : IntKind.u64.wrap (16 * 285870213051353865) / 288230376151711744 = 15 := by decide +kernel
  go_enter Tryd.func86, Tryd.ntmps86
  go_wp2
  go_ret
  exact ⟨rfl, rfl⟩

theorem tz (w : World) (hd : w.cell? ⟨5, 15, none⟩ = some (.int .u8 4)) : Calls Tryd.prog 83 #[.int .u64 16] w fun e w' => e = .returned (.int .i64 4) ∧ w = w' := by
  go_enter Tryd.func83, Tryd.ntmps83
  go_wp2_with (go_at_call 86; refine (tz64 _ hd).mono ?_; rintro e w' ⟨rfl, rfl⟩)
  go_ret
  exact ⟨rfl, rfl⟩

end Go.Proofs.YtdfljicijfceeaaDoor
