/- Spoilt: the walk of runes.Spoilt: how many bytes of any text begin no rune, where Go's own two tables of utf8 are as their text lays them. -/
import Derived.Test.YthgkgcdnidkckaaDoorSpoilt
import Derived.Test.YthgkgcdnidkckaaDoorKinds
import Derived.Test.YthgkgcdnidkckaaDoorShelf
namespace Go.Proofs.YthgkgcdnidkckaaDoor
open Go.RowKit

/-- Go's two tables of package utf8 hold what their text lays. -/
abbrev Tabs (w : World) : Prop := Lib.Utf8Tabs 0 1 w
theorem tabs_below {w w' : World} (h : Tabs w) (hb : Below w.heap.size w w') : Tabs w' := by
  have key : ∀ (b o : Nat) (v : Value), w.cell? ⟨b, o, none⟩ = some v → w'.cell? ⟨b, o, none⟩ = some v := fun b o v hc =>
    (hb.cell (p := ⟨b, o, none⟩) (World.block_lt_of_cell? _ _ hc)).trans hc
  exact ⟨fun c hc => key _ _ _ (h.1 c hc), fun i hi => ⟨key _ _ _ (h.2 i hi).1, key _ _ _ (h.2 i hi).2⟩⟩

/-- x is what is left of s from p on. -/
def Tail (s : ByteArray) (p : Nat) (x : ByteArray) : Prop := p ≤ s.size ∧ x.size = s.size - p ∧ ∀ i, x.get! i = s.get! (p + i)
theorem Tail.whole (s : ByteArray) : Tail s 0 s := ⟨Nat.zero_le _, rfl, fun i => by rw [Nat.zero_add]⟩
theorem Tail.cut {s x : ByteArray} {p k : Nat} (h : Tail s p x) (hk : p + k ≤ s.size) : Tail s (p + k) (x.extract k x.size) := by
  obtain ⟨h1, h2, h3⟩ := h
  refine ⟨hk, by rw [Lib.tail_size]; omega, fun i => ?_⟩
  rw [Lib.tail_get!, h3, Nat.add_assoc]
theorem Tail.decode {s x : ByteArray} {p : Nat} (h : Tail s p x) : Utf8.decode x 0 = Utf8.decode s p := by
  obtain ⟨h1, h2, h3⟩ := h
  rw [Lib.decode_at, Lib.decode_at, h3, h3, h3, h3, h2]
  rfl

def strSize : Value → Nat | .string x => x.size | _ => 0
def SpRel (w : World) (s : ByteArray) (v0 v3 : Value) (wr : World) : Prop :=
  ∃ (x : ByteArray) (p n : Nat), v0 = .string x ∧ v3 = .int .i64 n ∧ Tail s p x ∧ n + spoilt s p = spoilt s 0 ∧ Below w.heap.size w wr

set_option maxHeartbeats 400000 in
theorem spoilt_any (s : ByteArray) (w : World) (hs : s.size ≤ 4611686018427387904) (hT : Tabs w) :
    Calls Tryd.prog 7 #[.string s] w fun e w' => e = .returned (.int .i64 (spoilt s 0)) ∧ Below w.heap.size w w' := by
  go_enter Tryd.func7, Tryd.ntmps7
  go_wp2_with fail
  go_loopw [0, 3] (SpRel w s) (fun v _ _ => strSize v)
  case atStart => exact ⟨s, 0, 0, rfl, rfl, Tail.whole s, by omega, Below.refl _ _⟩
  case round =>
    obtain ⟨x, p, n, rfl, rfl, ht, hn, hb⟩ := hrel
    have hle := spoilt_le s s.size 0 (by omega)
    have hxs := ht.2.1
    have hps := ht.1
    by_cases hlt : p < s.size
    · have hd := dec_bound s p hlt
      have hstep := spoilt_step s p hlt
      have hcut := ht.cut hd.2.2
      have hgo : Lib.decodeGo x = ((Utf8.decode s p).1, (Utf8.decode s p).2) := by
        unfold Lib.decodeGo
        rw [if_neg (by omega), ht.decode]
      unfold badAt at hstep
      generalize (Utf8.decode s p).1 = r at *
      generalize (Utf8.decode s p).2 = k at *
      have HG := Lib.hid hgo
      have HS := Lib.hid hstep
      have HX := Lib.hid hxs
      have HN := Lib.hid hn
      have HC := Lib.hid hcut
      have hx0 : 0 < x.size := by omega
      have hkx : k ≤ x.size := by omega
      clear hgo hstep hxs hn hcut ht
      go_wp2_with fail
      refine (Tryd.utf8_DecodeRuneInString x wr (tabs_below hT hb)).mono ?_
      rintro e w1 ⟨rfl, hb1⟩
      rw [HG.out]
      dsimp only
      have hb2 := hb.trans (hb1.mono hb.size)
      have hnb : n ≤ 4611686018427387904 := by have := HN.out; omega
      by_cases hr : r = 65533
      · subst hr
        by_cases hk : k = 1
        · subst hk
          go_wp2_with fail
          exact ⟨⟨_, p + 1, n + 1, rfl, by go_num, HC.out, by have h1 := HS.out; have h2 := HN.out; simp at h1; omega, hb2⟩, by simp only [strSize, Lib.tail_size]; omega⟩
        · have hk1 : ((k : Int) == 1) = false := by rw [beq_eq_false_iff_ne]; omega
          have hk2 : (k == 1) = false := by rw [beq_eq_false_iff_ne]; omega
          go_wp2_with fail
          exact ⟨⟨_, p + k, n, rfl, rfl, HC.out, by have h1 := HS.out; have h2 := HN.out; rw [hk2] at h1; simp at h1; omega, hb2⟩, by simp only [strSize, Lib.tail_size]; omega⟩
      · have hr1 : ((r : Int) == 65533) = false := by rw [beq_eq_false_iff_ne]; omega
        have hr2 : (r == 65533) = false := by rw [beq_eq_false_iff_ne]; omega
        go_wp2_with fail
        exact ⟨⟨_, p + k, n, rfl, rfl, HC.out, by have h1 := HS.out; have h2 := HN.out; rw [hr2] at h1; simp at h1; omega, hb2⟩, by simp only [strSize, Lib.tail_size]; omega⟩
    · have hx0 : ¬ 0 < x.size := by omega
      rw [spoilt_end s p hlt] at hn
      clear hxs
      have HN := Lib.hid hn
      clear hn
      go_wp2
      go_ret
      exact ⟨ret_int (by have := HN.out; omega), hb⟩

end Go.Proofs.YthgkgcdnidkckaaDoor
