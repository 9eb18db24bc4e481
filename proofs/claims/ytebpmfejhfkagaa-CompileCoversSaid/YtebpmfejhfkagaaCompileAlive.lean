/- scriptlaw10.alive is true; what the heads of any rules are like: they cover all runes; the one that has a rune tells the rules that may begin with it. -/
import Derived.Test.YtebpmfejhfkagaaCompile
import Derived.Test.YtebpmfejhfkagaaHeadsSame
namespace Go.Proofs.Ytebpmfejhfkagaa
open Go.RowKit

def abRule : RuleD := ⟨false, false, [], [[(97, 98)]], [], [], 0⟩
theorem comp_ab : compP [abRule] = ([⟨0, 96, []⟩, ⟨97, 98, [0]⟩, ⟨99, 1114111, []⟩], (0, 0)) := by kernel_rfl

set_option maxRecDepth 100000 in
set_option maxHeartbeats 1600000 in
theorem compile_alive (w : World) : Calls Try.prog 9 #[] w fun e w' => e = .returned (.bool true) ∧ Below w.heap.size w w' := by
  have hb := (((Below.refl w.heap.size w).alloc (Nat.le_refl _) (.cells #[.int .i32 97, .int .i32 98] 46)).alloc (by simp) (.cells #[.slice (some ⟨w.heap.size, 0, none⟩) 1 1] 44)).alloc (by simp; omega) (.cells #[.bool false, .bool false, .slice none 0 0, .slice (some ⟨w.heap.size + 1, 0, none⟩) 1 1, .slice none 0 0, .slice none 0 0, .int .i64 0] 43)
  have HB := Lib.hid hb
  have HCM := Lib.hid (compile_heads Any0 [abRule] (some ⟨w.heap.size + 2, 0, none⟩) 1 1 (((w.alloc (.cells #[.int .i32 97, .int .i32 98] 46)).alloc (.cells #[.slice (some ⟨w.heap.size, 0, none⟩) 1 1] 44)).alloc (.cells #[.bool false, .bool false, .slice none 0 0, .slice (some ⟨w.heap.size + 1, 0, none⟩) 1 1, .slice none 0 0, .slice none 0 0, .int .i64 0] 43)) (by decide) (by
    have b0 := Blk.alloc (Blk.alloc (Blk.new w 46 #[.int .i32 97, .int .i32 98]) (.cells #[.slice (some ⟨w.heap.size, 0, none⟩) 1 1] 44)) (.cells #[.bool false, .bool false, .slice none 0 0, .slice (some ⟨w.heap.size + 1, 0, none⟩) 1 1, .slice none 0 0, .slice none 0 0, .int .i64 0] 43)
    have b1 := Blk.alloc (Blk.new (w.alloc (.cells #[.int .i32 97, .int .i32 98] 46)) 44 #[.slice (some ⟨w.heap.size, 0, none⟩) 1 1]) (.cells #[.bool false, .bool false, .slice none 0 0, .slice (some ⟨w.heap.size + 1, 0, none⟩) 1 1, .slice none 0 0, .slice none 0 0, .int .i64 0] 43)
    have b2 := Blk.new ((w.alloc (.cells #[.int .i32 97, .int .i32 98] 46)).alloc (.cells #[.slice (some ⟨w.heap.size, 0, none⟩) 1 1] 44)) 43 #[.bool false, .bool false, .slice none 0 0, .slice (some ⟨w.heap.size + 1, 0, none⟩) 1 1, .slice none 0 0, .slice none 0 0, .int .i64 0]
    rw [show (w.alloc (.cells #[.int .i32 97, .int .i32 98] 46)).heap.size = w.heap.size + 1 by simp] at b1
    rw [show ((w.alloc (.cells #[.int .i32 97, .int .i32 98] 46)).alloc (.cells #[.slice (some ⟨w.heap.size, 0, none⟩) 1 1] 44)).heap.size = w.heap.size + 2 by simp] at b2
    generalize (((w.alloc (.cells #[.int .i32 97, .int .i32 98] 46)).alloc (.cells #[.slice (some ⟨w.heap.size, 0, none⟩) 1 1] 44)).alloc (.cells #[.bool false, .bool false, .slice none 0 0, .slice (some ⟨w.heap.size + 1, 0, none⟩) 1 1, .slice none 0 0, .slice none 0 0, .int .i64 0] 43)) = W at *
    have rd : ∀ (g : Nat) (t : TypeId) (cs : List Value) (sz : Nat), cs.length = 1 * sz → Blk W g t cs.toArray → RdX W Any0 sz (some ⟨g, 0, none⟩) 1 cs := fun g t cs sz hl hbk =>
      ⟨hl, fun _ => ⟨g, 0, rfl, trivial, hbk.lt, fun j u hu => by rw [hbk.cell, Nat.zero_add]; simpa using hu⟩⟩
    have hnil : SetsV W Any0 [] (.slice none 0 0) := ⟨none, 0, 0, rfl, ⟨[], rfl, rfl, by simp, by simp, by simp, fun h => absurd h (Nat.lt_irrefl 0)⟩, Nat.zero_le _⟩
    have one : ∀ {α : Type} (R : α → List Value → Prop) (sz : Nat) (g : Nat) (a : α) (cs : List Value), cs.length = sz → R a cs → RdX W Any0 sz (some ⟨g, 0, none⟩) 1 cs → ListX R W Any0 sz (some ⟨g, 0, none⟩) 1 [a] := fun R sz g a cs hl hr hx =>
      ⟨[cs], rfl, rfl, fun i x ks h1 h2 => by
        have hi : i = 0 := by
          have := (List.getElem?_eq_some_iff.1 h1).1
          simp at this
          omega
        subst hi
        simp at h1 h2
        subst h1 h2
        exact hr, by simp [hl], by simpa using hx⟩
    refine one _ 7 _ abRule [.bool false, .bool false, .slice none 0 0, .slice (some ⟨w.heap.size + 1, 0, none⟩) 1 1, .slice none 0 0, .slice none 0 0, .int .i64 0] rfl ?_ (rd _ _ _ 7 rfl b2)
    refine ⟨_, _, _, none, 0, 0, rfl, hnil, ?_, hnil, ⟨rfl, fun h => absurd h (Nat.lt_irrefl 0)⟩, Nat.zero_le _⟩
    refine ⟨_, 1, 1, rfl, one _ 1 _ _ [.slice (some ⟨w.heap.size, 0, none⟩) 1 1] rfl ⟨_, rfl, _, 1, 1, rfl, rd _ _ _ 2 rfl b0, by decide⟩ (rd _ _ _ 1 rfl b1), by decide⟩))
  rw [comp_ab] at HCM
  clear hb
  go_enter Try.func9, Try.ntmps9
  go_wp2_with fail
  refine HCM.out.mono ?_
  rintro e w1 ⟨⟨v, rfl, hv⟩, hb1⟩
  obtain ⟨A1, c1, rfl, h1, _⟩ := hv.form
  obtain ⟨b, off, A', c', rfl, _, hbb, d0, d1, d2, _⟩ := head_at h1 (k := 1) rfl
  have HB1 := Lib.hid (HB.out.trans (hb1.mono HB.out.size))
  have hba := (Below.refl w1.heap.size w1).alloc (Nat.le_refl _) (.cells #[.int .i64 0, .int .i64 0] 26)
  have hfb := Blk.new w1 26 #[.int .i64 0, .int .i64 0]
  have e0 := (hba.cell (p := ⟨b, off + 1 * 3, none⟩) hbb).trans d0
  have e1 := (hba.cell (p := ⟨b, off + 1 * 3 + 1, none⟩) hbb).trans d1
  have e2 := (hba.cell (p := ⟨b, off + 1 * 3 + 2, none⟩) hbb).trans d2
  have HB2 := Lib.hid (HB1.out.alloc HB1.out.size (.cells #[.int .i64 0, .int .i64 0] 26))
  have f0 := hfb.cell 0
  clear hv h1 hba hfb hb1 d0 d1 d2
  go_wp2_with fail

  go_ret
  exact ⟨rfl, HB2.out⟩

end Go.Proofs.Ytebpmfejhfkagaa
