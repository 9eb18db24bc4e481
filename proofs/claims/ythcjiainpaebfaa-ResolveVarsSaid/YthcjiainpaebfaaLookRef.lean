/- The set of a name, by the document's answer: the walk of scriptref6.Look. -/
import Derived.Test.YthcjiainpaebfaaResolveP
import Derived.Lib.Strings
namespace Go.Proofs.Ythcjiainpaebfaa
open Go.RowKit

def LkRel (W : World) (l : List PartD) (s : ByteArray) (m : Nat) (i : Value) (wr : World) : Prop :=
  ∃ k : Nat, k ≤ m ∧ i = .int .i64 k ∧ lookP (l.take m) s = lookP ((l.take m).drop k) s ∧ wr = W
/-- What a look for a name tells. -/
def LkPost (w : World) (X : Nat → Prop) (r : Option Spans) (e : Ending) : Prop :=
  match r with
  | some s => ∃ u, e = .returned (.tuple #[u, .bool true]) ∧ SetV w X s u
  | none => e = .returned (.tuple #[.slice none 0 0, .bool false])

set_option maxRecDepth 100000 in
set_option maxHeartbeats 1600000 in
theorem ref_look (A : Option Addr) (n c : Nat) (l : List PartD) (m : Nat) (s : ByteArray) (w : World) (B : Nat) (hB : B ≤ w.heap.size) (hn : n ≤ maxLen) (hm : m ≤ n) (hl : RdP w B A n l) :
    Calls Try.prog 16 #[.slice A n c, .int .i64 m, .string s] w fun e w' => LkPost w (· < B) (lookP (l.take m) s) e ∧ w = w' := by
  have HLEN := Lib.hid (RdL.len hl)
  have HL := Lib.hid hl
  have hn2 : n ≤ 9223372036854775807 := by unfold maxLen at hn; omega
  clear hl hn
  go_enter Try.func16, Try.ntmps16
  go_wp2_with fail
  go_loopw [8] (LkRel w l s m) (fun i _ => m - (intOf i).toNat)
  case atStart => exact ⟨0, Nat.zero_le _, rfl, rfl, rfl⟩
  case round =>
    obtain ⟨k, hk, rfl, hgo, rfl⟩ := hrel
    by_cases hlt : k < m
    · obtain ⟨p, hp⟩ : ∃ z, l[k]? = some z := ⟨_, List.getElem?_eq_getElem (by rw [HLEN.out]; omega)⟩
      have hkn : k < n := by omega
      rw [lookP_drop hp hlt] at hgo
      obtain ⟨b, off, cs, rfl, hb, ⟨A', n', c', ls, rs, hcs, hset, hn', hls, hrs, _⟩, hc⟩ := RdL.at HL.out hp
      subst hcs
      obtain ⟨L1, a1, x1, L2, a2, x2, L3, a3, x3, hls, _⟩ := hls
      obtain ⟨R1, b1, y1, R2, b2, y2, R3, b3, y3, hrs, _⟩ := hrs
      subst hls hrs
      have f0 : wr.cell? ⟨b, off + k * 16, none⟩ = some (.int .i64 p.kind) := hc 0 _ rfl
      have f1 : wr.cell? ⟨b, off + k * 16 + 1, none⟩ = some (.string p.name) := hc 1 _ rfl
      have f2 : wr.cell? ⟨b, off + k * 16 + 2, none⟩ = some (.slice A' n' c') := hc 2 _ rfl
      have HSV := Lib.hid (show SetV wr (· < B) p.set (.slice A' n' c') from ⟨A', n', c', rfl, RdX.of_rd hset hB (fun _ h => h), hn'⟩)
      clear hc hset hn'
      by_cases h1 : p.kind = 1
      · have q1 : (p.kind == 1) = true := by simpa using h1
        by_cases h2 : p.name = s
        · rw [if_pos ⟨h1, h2⟩] at hgo
          have q2 : (p.name.toList == s.toList) = true := by rw [str_eq]; simpa using h2
          have HG := Lib.hid hgo
          clear hgo h1 h2
          go_wp2_with fail
          go_ret2
          rw [HG.out]
          exact ⟨⟨_, rfl, HSV.out⟩, rfl⟩
        · rw [if_neg (fun h => h2 h.2)] at hgo
          have q2 : (p.name.toList == s.toList) = false := by rw [str_eq]; simpa using h2
          have HG := Lib.hid hgo
          clear hgo h1 h2
          go_wp2_with fail
          exact ⟨⟨k + 1, by omega, by go_num, HG.out, rfl⟩, by simp [intOf]; omega⟩
      · rw [if_neg (fun h => h1 h.1)] at hgo
        have q1 : (p.kind == 1) = false := by simpa using h1
        have HG := Lib.hid hgo
        clear hgo h1
        go_wp2_with fail
        exact ⟨⟨k + 1, by omega, by go_num, HG.out, rfl⟩, by simp [intOf]; omega⟩
    · obtain rfl : k = m := by omega
      rw [List.drop_of_length_le (by simp; omega), lookP] at hgo
      have HG := Lib.hid hgo
      clear hgo
      go_wp2_with fail
      go_ret2
      rw [HG.out]
      exact ⟨rfl, rfl⟩

end Go.Proofs.Ythcjiainpaebfaa
