/- Bulk -/
import Derived.Test.YthnhbcohfoodlaaGreatDoorRows
namespace Go.Proofs.YthnhbcohfoodlaaGreatDoor
theorem xg {H : Type} (s : ByteArray) : s.size ≤ Rows.uptoBulk (DataW.lit (H := H) (.string s.data.toList)) := by
 have e : s.data.toList.length = s.size := (by rw [Array.length_toList]; rfl);simp only [Rows.uptoBulk];omega
theorem zv {H : Type} {l : List (DataW H)} (hk : Rows.uptoSmall H l = true) : Rows.uptoBulkAll l ≤ 1048576 := of_decide_eq_true hk
end Go.Proofs.YthnhbcohfoodlaaGreatDoor
