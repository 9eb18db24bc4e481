/- The bytes of one rune: the walk of scriptref1.Bytes. -/
import Derived.Test.YtdfljicijfceeaaDoorKinds
import Derived.Test.YtdfljicijfceeaaDoorRight
import Derived.Lib.RuneBytes
namespace Go.Proofs.YtdfljicijfceeaaDoor
open Go.RowKit

theorem right_range {r : Int} (h : rightB r = true) : 0 ≤ r ∧ r ≤ 1114111 := by
  simp [rightB] at h
  omega

theorem Tryd.info5 : (Tryd.prog.info? 5).map (fun i => (i.zero, i.size, i.bytes)) = some (some (.int .u8 0), 1, 1) := by kernel_rfl

/-- A list of bytes that the call owns. -/
def OwnB (w : World) (base : Nat) (v : Value) (l : List UInt8) : Prop := w.ownsRow base 5 1 v l.length (Lib.byteCells l)
theorem OwnB.nil (w : World) (base : Nat) : OwnB w base (.slice none 0 0) [] := World.ownsRow_nil _ _ _ _
theorem OwnB.of {w w' : World} {base n : Nat} {v v' : Value} {xs : List Value} {l : List UInt8}
    (h : Appended base 5 1 v w n xs v' w') (hn : l.length = n) (hx : Lib.byteCells l = xs) : OwnB w' base v' l := by
  subst hn hx
  exact h.own

def BytesPost (w : World) (r : Int) (e : Ending) (w' : World) : Prop :=
  ∃ v, e = .returned v ∧ OwnB w' w.heap.size v (Lib.encodeRune r) ∧ Below w.heap.size w w'

theorem ownB_made (w : World) (l : List UInt8) (cs : Array Value) (n : Nat) (hn : l.length = n) (hm : n ≤ maxLen) (hc : cs.toList = Lib.byteCells l) : OwnB (w.alloc (.cells cs 5)) w.heap.size (.slice (some ⟨w.heap.size, 0, none⟩) n n) l := by
  subst hn
  have hl : cs.toList.length = l.length := by rw [hc]; simp [Lib.byteCells]
  refine ⟨by simp [Lib.byteCells], .inr ⟨w.heap.size, l.length, cs, rfl, Nat.le_refl _, heap_alloc_new _ _, Nat.le_refl _, hm, by rw [Nat.mul_one, ← hl, Array.length_toList], ?_⟩⟩
  rw [List.take_of_length_le (by omega), hc]

theorem encCells (r : Int) : Lib.byteCells (Lib.encodeRune r) = (Lib.encodeRuneZ r).map (Value.int .u8) := Lib.byteCells_encodeRune r

set_option maxRecDepth 100000 in
set_option maxHeartbeats 800000 in
theorem ref_bytes (r : Int) (hr : rightB r = true) (w : World) :
    Calls Tryd.prog 56 #[.int .i32 r] w (BytesPost w r) := by
  have hrr := right_range hr
  simp [rightB] at hr
  by_cases h1 : r < 128
  · have hz := Lib.encodeRuneZ_one (r := r) (by omega) (by omega)
    have hm := ownB_made w (Lib.encodeRune r) #[.int .u8 r] 1 (by rw [← Lib.runeCells_length, Lib.runeCells, hz]; rfl) (by simp [maxLen]) (by rw [encCells, hz]; rfl)
    have HM := Lib.hid hm
    clear hm hz
    go_enter Tryd.func56, Tryd.ntmps56
    go_wp2
    go_ret
    exact ⟨_, rfl, HM.out, (Below.refl _ _).alloc (Nat.le_refl _) _⟩
  by_cases h2 : r < 2048
  · have hz := Lib.encodeRuneZ_two (r := r) (by omega) (by omega)
    have hm := ownB_made w (Lib.encodeRune r) #[.int .u8 (192 + r / 64), .int .u8 (128 + r % 64)] 2 (by rw [← Lib.runeCells_length, Lib.runeCells, hz]; rfl) (by simp [maxLen]) (by rw [encCells, hz]; rfl)
    have HM := Lib.hid hm
    clear hm hz
    go_enter Tryd.func56, Tryd.ntmps56
    go_wp2
    go_ret
    exact ⟨_, rfl, HM.out, (Below.refl _ _).alloc (Nat.le_refl _) _⟩
  by_cases h3 : r < 65536
  · have hz := Lib.encodeRuneZ_three (r := r) (by omega)
    have hm := ownB_made w (Lib.encodeRune r) #[.int .u8 (224 + r / 4096), .int .u8 (128 + r / 64 % 64), .int .u8 (128 + r % 64)] 3 (by rw [← Lib.runeCells_length, Lib.runeCells, hz]; rfl) (by simp [maxLen]) (by rw [encCells, hz]; rfl)
    have HM := Lib.hid hm
    clear hm hz
    go_enter Tryd.func56, Tryd.ntmps56
    go_wp2
    go_ret
    exact ⟨_, rfl, HM.out, (Below.refl _ _).alloc (Nat.le_refl _) _⟩
  · have hz := Lib.encodeRuneZ_four (r := r) (by omega) (by omega)
    have hm := ownB_made w (Lib.encodeRune r) #[.int .u8 (240 + r / 262144), .int .u8 (128 + r / 4096 % 64), .int .u8 (128 + r / 64 % 64), .int .u8 (128 + r % 64)] 4 (by rw [← Lib.runeCells_length, Lib.runeCells, hz]; rfl) (by simp [maxLen]) (by rw [encCells, hz]; rfl)
    have HM := Lib.hid hm
    clear hm hz
    go_enter Tryd.func56, Tryd.ntmps56
    go_wp2
    go_ret
    exact ⟨_, rfl, HM.out, (Below.refl _ _).alloc (Nat.le_refl _) _⟩

set_option maxRecDepth 100000 in
theorem own_bytes_string {w : World} {base n c : Nat} {A : Option Addr} {l : List UInt8} (h : OwnB w base (.slice A n c) l) (hn : l.length = n) :
    (convert 31 9 (.slice A n c)).run Tryd.prog w = .ok (.string ⟨l.toArray⟩) w := by
  subst hn
  rcases h.2 with ⟨hv, h0⟩ | ⟨g, cap, cur, hv, _, hg, _⟩
  · have := List.eq_nil_of_length_eq_zero h0
    subst this
    rw [hv]
    exact run_convert_bytes_nil (P := Tryd.prog) (w := w) 31 5 Tryd.underlying31 Tryd.underlying5 0 0 _ Tryd.underlying9
  · injection hv with hA _ hc
    subst hA hc
    exact run_convert_bytes_back w 31 9 5 ⟨g, 0, none⟩ c l Tryd.underlying31 Tryd.underlying5 Tryd.underlying9 (fun j hj => World.ownsRow.cells h (g := g) rfl j _ (by simp [Lib.byteCells, List.getElem?_eq_getElem hj]))

end Go.Proofs.YtdfljicijfceeaaDoor
