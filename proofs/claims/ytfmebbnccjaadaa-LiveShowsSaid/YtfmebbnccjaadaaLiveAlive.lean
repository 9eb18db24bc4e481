/- The closed fact that the laws of chapter 21 ask first: 'a', 'b', one back leave "a". The walk of scriptlaw21.alive. -/
import Derived.Test.YtfmebbnccjaadaaTypedAll
import Derived.Laws.Cover4
namespace Go.Proofs.Ytfmebbnccjaadaa
open Go.RowKit

theorem rdK_new (w : World) : RdK (w.alloc (.cells #[.int .i64 1, .int .i32 97, .int .i64 1, .int .i32 98, .int .i64 2, .int .i32 0] 116)) (w.heap.size + 1) (some ⟨w.heap.size, 0, none⟩) 3 [(1, 97), (1, 98), (2, 0)] := by
  refine ⟨rfl, fun _ => ⟨_, _, rfl, Nat.lt_succ_self _, fun j u hu => ?_⟩⟩
  rw [(Blk.new w _ _).cell (0 + j), Nat.zero_add]
  simpa [keyCells] using hu

theorem bytes_a : runesBytes [97] = ⟨#[97]⟩ := by decide +kernel

set_option maxHeartbeats 400000 in
theorem live_alive (w : World) : Calls Try.prog 31 #[] w fun e w' => e = .returned (.bool true) ∧ Below w.heap.size w w' := by
  have HK := Lib.hid (rdK_new w)
  go_enter Try.func31, Try.ntmps31
  go_wp2_with fail
  refine (typed_any _ _ _ [(1, 97), (1, 98), (2, 0)] _ (by omega) (by simpa using HK.out)).mono ?_
  rintro e w1 ⟨v', rfl, hown, hbel⟩
  simp only [show typedP [(1, 97), (1, 98), (2, 0)] = ([97], 0, 0) from by decide +kernel] at hown ⊢
  obtain ⟨g, c, rfl, hc, hg, hgw⟩ := own_some hown (by simp)
  have hcv : ∀ o, (convert 23 9 (.slice (some ⟨g, 0, none⟩) 1 c)).run Try.prog (w1.alloc o) = .ok (.string ⟨#[97]⟩) (w1.alloc o) := fun o => by
    rw [run_convert_runes (P := Try.prog) (w1.alloc o) 23 9 21 ⟨g, 0, none⟩ 1 c [97] (by simp) Try.underlying23 Try.underlying21 Try.underlying9 ?_]
    · simp [bytes_a]
    · intro j hj
      have h := World.ownsRow.cells (World.ownsRow.alloc hown o) (g := g) rfl j (.int .i32 97)
      simp at hj
      subst hj
      exact h rfl
  have hb := hbel.size
  simp at hb
  have HO := Lib.hid hown
  clear hown
  have HB := Lib.hid hbel
  clear hbel
  go_wp2
  go_ret
  refine ⟨rfl, ?_⟩
  exact (((Below.refl _ _).alloc (Nat.le_refl _) _).trans (HB.out.mono (by simp))).alloc (by omega) _

end Go.Proofs.Ytfmebbnccjaadaa
