/- What is wrong with items: the walk of scriptref5.items: itemsP. Whether all are runes: the walks of scriptref5.plain and rulesyn.told. -/
import Derived.Test.YthcjiainpaebfaaItem
namespace Go.Proofs.Ythcjiainpaebfaa
open Go.RowKit

def itemsGo : List ItemD → Int
  | [] => 0
  | a :: r => if itemP a = 0 then itemsGo r else itemP a
def itemsP (l : List ItemD) : Int := if 20 < l.length then 5 else itemsGo l

theorem item_at {w : World} {B n : Nat} {A : Option Addr} {l : List ItemD} (h : RdIt w B A n l) {k : Nat} {a : ItemD} (hk : l[k]? = some a) :
    ∃ (b off : Nat) (A' : Option Addr) (n' c' : Nat), A = some ⟨b, off, none⟩ ∧ b < B ∧ w.cell? ⟨b, off + k * 4, none⟩ = some (.int .i64 a.kind) ∧ w.cell? ⟨b, off + k * 4 + 1, none⟩ = some (.int .i32 a.rune) ∧
      w.cell? ⟨b, off + k * 4 + 2, none⟩ = some (.slice A' n' c') ∧ w.cell? ⟨b, off + k * 4 + 3, none⟩ = some (.string a.name) ∧ RdS w B A' n' a.set ∧ n' ≤ maxLen ∧ i64R a.kind ∧ a.name.size ≤ maxLen := by
  obtain ⟨b, off, cs, e, hb, ⟨A', n', c', hcs, h1, h2, h3, h4⟩, hc⟩ := RdL.at h hk
  subst hcs
  exact ⟨b, off, A', n', c', e, hb, hc 0 _ rfl, hc 1 _ rfl, hc 2 _ rfl, hc 3 _ rfl, h1, h2, h3, h4⟩

def ItRel (W : World) (l : List ItemD) (n : Nat) (i : Value) (wr : World) : Prop :=
  ∃ k : Nat, k ≤ n ∧ i = .int .i64 k ∧ itemsGo l = itemsGo (l.drop k) ∧ Below W.heap.size W wr

set_option maxRecDepth 100000 in
set_option maxHeartbeats 1600000 in
theorem ref_items (A : Option Addr) (n c : Nat) (l : List ItemD) (w : World) (hn : n ≤ maxLen) (hl : RdIt w w.heap.size A n l) :
    Calls Try.prog 50 #[.slice A n c] w fun e w' => e = .returned (.int .i64 (itemsP l)) ∧ Below w.heap.size w w' := by
  have HLEN := Lib.hid (RdL.len hl)
  have HL := Lib.hid hl
  have hn2 : n ≤ 9223372036854775807 := by unfold maxLen at hn; omega
  clear hl hn
  by_cases h20 : 20 < n
  · have HP := Lib.hid (show itemsP l = 5 by unfold itemsP; rw [if_pos (by rw [HLEN.out]; exact h20)])
    go_enter Try.func50, Try.ntmps50
    go_wp2_with fail
    go_ret
    rw [HP.out]
    exact ⟨rfl, Below.refl _ _⟩
  · have HP := Lib.hid (show itemsP l = itemsGo l by unfold itemsP; rw [if_neg (by rw [HLEN.out]; exact h20)])
    go_enter Try.func50, Try.ntmps50
    go_wp2_with fail
    go_loopw [11] (ItRel w l n) (fun i _ => n - (intOf i).toNat)
    case atStart => exact ⟨0, Nat.zero_le _, rfl, rfl, Below.refl _ _⟩
    case round =>
      obtain ⟨k, hk, rfl, hgo, hb⟩ := hrel
      have hz := hb.size
      by_cases hlt : k < n
      · obtain ⟨a, ha⟩ : ∃ z, l[k]? = some z := ⟨_, List.getElem?_eq_getElem (by rw [HLEN.out]; exact hlt)⟩
        rw [drop_at ha, itemsGo] at hgo
        obtain ⟨b, off, A', n', c', rfl, hbb, c0, c1, c2, c3, hset, hn', _, hnm⟩ := item_at HL.out ha
        have d0 := (hb.cell (p := ⟨b, off + k * 4, none⟩) hbb).trans c0
        have d1 := (hb.cell (p := ⟨b, off + k * 4 + 1, none⟩) hbb).trans c1
        have d2 := (hb.cell (p := ⟨b, off + k * 4 + 2, none⟩) hbb).trans c2
        have d3 := (hb.cell (p := ⟨b, off + k * 4 + 3, none⟩) hbb).trans c3
        have hb1 := fun o => hb.alloc hz o
        have HI := Lib.hid (fun o => ref_item a A' n' c' (wr.alloc o) (by unfold maxLen at hn'; omega) (by unfold maxLen at hnm; omega) (Rd.more (Rd.below hset (hb1 o)) (by simp; omega)))
        have HB1 := Lib.hid hb1
        clear c0 c1 c2 c3 hset hb1 hnm hn'
        unfold itemV at HI
        by_cases hi : itemP a = 0
        · rw [if_pos hi] at hgo
          have HG := Lib.hid hgo
          clear hgo
          go_wp2_with fail
          refine (HI.out _).mono ?_
          rintro e w2 ⟨rfl, hb2⟩
          rw [hi]
          have hb3 := (HB1.out _).trans (hb2.mono (by simp; omega))
          have HB3 := Lib.hid hb3
          clear hb2 hb3
          go_wp2_with fail
          exact ⟨⟨k + 1, by omega, by go_num, HG.out, HB3.out⟩, by simp [intOf]; omega⟩
        · rw [if_neg hi] at hgo
          have HG := Lib.hid hgo
          have hi2 : (itemP a != 0) = true := by simpa using hi
          clear hgo hi
          go_wp2_with fail
          refine (HI.out _).mono ?_
          rintro e w2 ⟨rfl, hb2⟩
          have hb3 := (HB1.out _).trans (hb2.mono (by simp; omega))
          have HB3 := Lib.hid hb3
          clear hb2 hb3
          go_wp2_with fail
          go_ret
          rw [HP.out, HG.out]
          exact ⟨rfl, HB3.out⟩
      · obtain rfl : k = n := by omega
        rw [List.drop_of_length_le (by rw [HLEN.out]; omega)] at hgo
        have HG := Lib.hid (hgo.trans (show itemsGo [] = 0 from rfl))
        clear hgo
        go_wp2_with fail
        go_ret
        rw [HP.out, HG.out]
        exact ⟨rfl, hb⟩

end Go.Proofs.Ythcjiainpaebfaa
