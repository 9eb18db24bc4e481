/- The closure put of rulesyn.written: a text that is not empty goes behind the others. -/
import Derived.Test.YtdfljicijfceeaaDoorItemsText
namespace Go.Proofs.YtdfljicijfceeaaDoor
open Go.RowKit

/-- What put leaves. -/
def PutPost (w : World) (base g : Nat) (W : List (List UInt8)) (w' : World) : Prop :=
  (∃ v', Blk w' g 47 #[v'] ∧ OwnT w' base v' W) ∧ Below base w w' ∧ ∀ (g2 : Nat) (t : TypeId) (cs : Array Value), g2 ≠ g → t ≠ 9 → Blk w g2 t cs → Blk w' g2 t cs

theorem own_setCell_other {w : World} {base g : Nat} {v u : Value} {W : List (List UInt8)} {cs : Array Value} (h : OwnT w base v W) (hb : Blk w g 47 cs) (i : Nat) : OwnT (w.setCell ⟨g, i, none⟩ u) base v W := by
  rcases h.2 with ⟨hv, h0⟩ | ⟨k, cap, cur, hv, h1, h2, h3⟩
  · exact ⟨h.1, .inl ⟨hv, h0⟩⟩
  · refine ⟨h.1, .inr ⟨k, cap, cur, hv, h1, ?_, h3⟩⟩
    rw [Below.heap_setCell _ _ _ _ ?_]
    · exact h2
    · intro e
      simp only at e
      subst e
      unfold Blk at hb
      rw [hb] at h2
      injection h2 with h2
      injection h2 with _ ht
      exact absurd ht (by decide)
theorem blk_setCell_other {w : World} {g g2 i : Nat} {u : Value} {t : TypeId} {cs : Array Value} (h : Blk w g2 t cs) (hne : g2 ≠ g) : Blk (w.setCell ⟨g, i, none⟩ u) g2 t cs := by
  unfold Blk at h ⊢
  rw [Below.heap_setCell _ _ _ _ hne]
  exact h

set_option maxRecDepth 100000 in
set_option maxHeartbeats 800000 in
theorem put_text (base g : Nat) (x : List UInt8) (W : List (List UInt8)) (v : Value) (w : World) (hg : Blk w g 47 #[v]) (hO : OwnT w base v W) (hbg : base ≤ g) (hbz : base ≤ w.heap.size) (hW : W.length ≤ 1000) :
    Calls Tryd.prog 22 #[.string ⟨x.toArray⟩, .pointer (some ⟨g, 0, none⟩)] w fun e w' => e = .returned (.tuple #[]) ∧ PutPost w base g (if x = [] then W else W ++ [x]) w' := by
  obtain ⟨i0, hi, hz0, hz1, hz2⟩ := info_parts infoStr
  by_cases hx : x = []
  · subst hx
    rw [if_pos rfl]
    have HG := Lib.hid hg
    have HO := Lib.hid hO
    clear hg hO
    go_enter Tryd.func22, Tryd.ntmps22
    go_wp2_with fail
    go_end0
    exact ⟨rfl, ⟨v, HG.out, HO.out⟩, Below.refl _ _, fun _ _ _ _ _ h => h⟩
  · rw [if_neg hx]
    have hne : x.isEmpty = false := by simpa using hx
    have c0 : w.cell? ⟨g, 0, none⟩ = some v := hg.cell 0
    obtain ⟨AO, cO, rfl, _⟩ := own_form hO
    have HN := Lib.hid (Rd.new w 9 1 1 [.string ⟨x.toArray⟩] rfl)
    have HO := Lib.hid (World.ownsRow.alloc hO (.cells #[.string ⟨x.toArray⟩] 9))
    have HB := Lib.hid ((Below.refl base w).alloc hbz (.cells #[.string ⟨x.toArray⟩] 9))
    have HG := Lib.hid (Blk.alloc hg (.cells #[.string ⟨x.toArray⟩] 9))
    have HZ := Lib.hid (fun (g2 : Nat) (t : TypeId) (cs : Array Value) (h : Blk w g2 t cs) => Blk.alloc h (.cells #[.string ⟨x.toArray⟩] 9))
    clear hg hO
    go_enter Tryd.func22, Tryd.ntmps22
    go_wp2_with (at_builtin; refine wpList_append_rd _ rfl (.tmp 5) (.tmp 7) 47 rfl base 9 i0 _ 1 16 Tryd.underlying47 hi hz0 hz1 hz2 rfl (by decide) _ _ _ rfl HO.out (w.heap.size + 1) (some ⟨w.heap.size, 0, none⟩) 1 1 [.string ⟨x.toArray⟩] rfl HN.out ?s1 (by simp only [maxLen]; omega) (by omega) (Nat.le_trans hbz HB.out.size) ?_)
    case s1 => intro u hu; simp at hu; subst hu; rfl
    intro v' w2 happ
    have hG2 := Blk.appended HG.out HO.out (by decide) happ
    have hO2 := OwnT.push (x := x) rfl W happ
    have hB2 := HB.out.trans (happ.below (Nat.le_trans hbz HB.out.size) HO.out)
    have HK2 := Lib.hid (fun (g2 : Nat) (t : TypeId) (cs : Array Value) (ht : t ≠ 9) (h : Blk w g2 t cs) => Blk.appended (HZ.out g2 t cs h) HO.out ht happ)
    have q0 : w2.cell? ⟨g, 0, none⟩ = some _ := hG2.cell 0
    have q1 := hG2.frozen 0
    clear happ
    obtain ⟨A2, c2, rfl, _⟩ := own_form hO2
    have HG2 := Lib.hid hG2
    have HO2 := Lib.hid hO2
    have HB2 := Lib.hid hB2
    clear hG2 hO2 hB2
    go_wp2_with fail
    go_end0
    refine ⟨rfl, ⟨_, ?_, own_setCell_other HO2.out HG2.out 0⟩, HB2.out.setCell hbg _, fun g2 t cs h1 h2 h3 => blk_setCell_other (HK2.out g2 t cs h2 h3) h1⟩
    have hlen : (W ++ [x]).length = W.length + 1 := by simp
    rw [hlen]
    have := HG2.out.put 0 (.slice A2 (W.length + 1) c2)
    simpa using this

end Go.Proofs.YtdfljicijfceeaaDoor
