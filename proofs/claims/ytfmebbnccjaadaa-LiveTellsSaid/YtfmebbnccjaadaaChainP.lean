/- What a script makes of a text, plain: goC rune by rune, goI. The walk of slices.Clone at runes. -/
import Derived.Test.YtfmebbnccjaadaaChainAll
namespace Go.Proofs.Ytfmebbnccjaadaa
open Go.RowKit

def meant (s : ScriptD) (x : Int) : Bool := !s.only? || hasP s.only x
def flushI (s : ScriptD) (pc out : List Int) : List Int × (Int × Int) :=
  if pc = [] then (out, (0, 0)) else if (allI 0 s.passes pc).2.1 ≠ 0 then ([], (allI 0 s.passes pc).2) else (out ++ (allI 0 s.passes pc).1, (0, 0))
def goC (s : ScriptD) : List Int → List Int → List Int → List Int × (Int × Int)
  | [], pc, out => flushI s pc out
  | x :: t, pc, out => if meant s x = true then goC s t (pc ++ [x]) out else if (flushI s pc out).2.1 ≠ 0 then ([], (flushI s pc out).2) else goC s t [] ((flushI s pc out).1 ++ [x])
def goI (s : ScriptD) (t : List Int) : List Int × (Int × Int) :=
  if (scriptW s).1 ≠ 0 then ([], scriptW s) else if textP t ≠ 0 then ([], (textP t, 0)) else if (goC s t [] []).2.1 ≠ 0 then ([], (goC s t [] []).2) else if 4000 < (goC s t [] []).1.length then ([], (4, (s.passes.length : Int))) else ((goC s t [] []).1, (0, 0))
theorem goC_in {s : ScriptD} {x : Int} {t pc out : List Int} (h : meant s x = true) : goC s (x :: t) pc out = goC s t (pc ++ [x]) out := by rw [goC, if_pos h]
theorem flush_nil (s : ScriptD) (out : List Int) : flushI s [] out = (out, (0, 0)) := by rw [flushI, if_pos rfl]
theorem flush_ok {s : ScriptD} {pc out x : List Int} {f : Int} (hp : pc ≠ []) (h : allI 0 s.passes pc = (x, (0, f))) : flushI s pc out = (out ++ x, (0, 0)) := by
  rw [flushI, if_neg hp, h, if_neg (fun h => h rfl)]
theorem flush_bad {s : ScriptD} {pc out x : List Int} {e f : Int} (hp : pc ≠ []) (h : allI 0 s.passes pc = (x, (e, f))) (he : e ≠ 0) : flushI s pc out = ([], (e, f)) := by
  rw [flushI, if_neg hp, h, if_pos he]
theorem goC_out {s : ScriptD} {x : Int} {t pc out o2 : List Int} (h : meant s x = false) (hf : flushI s pc out = (o2, (0, 0))) : goC s (x :: t) pc out = goC s t [] (o2 ++ [x]) := by
  rw [goC, if_neg (by rw [h]; decide), hf, if_neg (fun h => h rfl)]
theorem goC_bad {s : ScriptD} {t pc out : List Int} {e f : Int} (h : ∀ x t', t = x :: t' → meant s x = false) (hf : flushI s pc out = ([], (e, f))) (he : e ≠ 0) : goC s t pc out = ([], (e, f)) := by
  cases t with
  | nil => exact hf
  | cons x t => rw [goC, if_neg (by rw [h x t rfl]; decide), hf, if_pos he]
theorem script_right {s : ScriptD} (h : (scriptW s).1 = 0) (ho : s.only? = true) : RightSet s.only := by
  unfold scriptW at h
  by_cases hz : wrongP s.only = 0
  · exact right_set hz
  · rw [if_pos ⟨ho, hz⟩] at h
    exact absurd h hz

set_option maxRecDepth 100000 in
set_option maxHeartbeats 1600000 in
theorem clone_runes (b o n c : Nat) (l : List Int) (w : World) (hn : n ≤ 1000000) (hl : RdR w w.heap.size (some ⟨b, o, none⟩) n l) :
    Calls Try.prog 55 #[.slice (some ⟨b, o, none⟩) n c] w fun e w' => (∃ v, e = .returned v ∧ w'.ownsRow w.heap.size 21 1 v n (runeCells l)) ∧ Below w.heap.size w w' := by
  obtain ⟨i0, hi, z0, z1, z2⟩ := info_parts Try.info21
  have hba := (Below.refl w.heap.size w).alloc (Nat.le_refl _) (.cells #[] 21)
  have HBA := Lib.hid hba
  have HOE := Lib.hid (own_empty w 21 1 w.heap.size w.heap.size rfl (Nat.le_refl _))
  have HL := Lib.hid (Rd.below hl hba)
  have hnil : ∀ W : World, (binOp .eql 23 (.slice (some ⟨b, o, none⟩) n c) (.slice none 0 0)).run Try.prog W = .ok (.bool false) W := fun _ => by kernel_rfl
  clear hba hl
  go_enter Try.func55, Try.ntmps55
  go_wp2_with (at_builtin; refine wpList_append_rd _ rfl (.tmp 5) (.tmp 6) 23 rfl w.heap.size 21 i0 _ 1 4 Try.underlying23 hi z0 z1 z2 rfl (by decide) _ _ _ rfl HOE.out _ (some ⟨b, o, none⟩) n c (runeCells l) rfl HL.out (runeCells_one _) (by simp only [maxLen]; omega) (by omega) (by simp) ?_)
  intro v1 w1 happ
  have HO := Lib.hid (show w1.ownsRow w.heap.size 21 1 v1 n (runeCells l) by have := happ.own; simpa using this)
  have HB := Lib.hid (HBA.out.trans (happ.below (by simp) HOE.out))
  clear happ
  go_wp2_with fail
  go_ret
  exact ⟨⟨_, rfl, HO.out⟩, HB.out⟩

end Go.Proofs.Ytfmebbnccjaadaa
