/- The walk of scriptref10.Same at two readings of the same heads: true. -/
import Derived.Test.YtebpmfejhfkagaaHeadsMem
namespace Go.Proofs.Ytebpmfejhfkagaa
open Go.RowKit

theorem HeadsV.form {w : World} {X : Nat → Prop} {hs : List HeadD} {u : Value} (h : HeadsV w X hs u) : ∃ A c, u = .slice A hs.length c ∧ ListX (HeadC w X) w X 3 A hs.length hs ∧ hs.length ≤ maxLen := by
  obtain ⟨A, n, c, rfl, h1, h2⟩ := h
  obtain rfl : hs.length = n := h1.len
  exact ⟨A, c, rfl, h1, h2⟩
/-- One head of a list. -/
theorem head_at {w : World} {X : Nat → Prop} {A : Option Addr} {n : Nat} {l : List HeadD} (h : ListX (HeadC w X) w X 3 A n l) {k : Nat} {x : HeadD} (hk : l[k]? = some x) :
    ∃ (b off : Nat) (A' : Option Addr) (c' : Nat), A = some ⟨b, off, none⟩ ∧ X b ∧ b < w.heap.size ∧ w.cell? ⟨b, off + k * 3, none⟩ = some (.int .i32 x.low) ∧ w.cell? ⟨b, off + k * 3 + 1, none⟩ = some (.int .i32 x.high) ∧
      w.cell? ⟨b, off + k * 3 + 2, none⟩ = some (.slice A' x.rules.length c') ∧ RdI w w.heap.size A' x.rules.length x.rules ∧ RdX w X 1 A' x.rules.length (intCells x.rules) ∧ x.rules.length ≤ maxLen := by
  obtain ⟨b, off, cs, e, hx, hb, ⟨u, rfl, hu⟩, _, hc⟩ := h.at hk
  obtain ⟨A', c', rfl, h1, h2, h3⟩ := hu.form
  exact ⟨b, off, A', c', e, hx, hb, hc 0 _ rfl, hc 1 _ rfl, hc 2 _ rfl, h1, h2, h3⟩

set_option maxRecDepth 100000 in
set_option maxHeartbeats 1600000 in
theorem heads_same (X Y : Nat → Prop) (A B : Option Addr) (n c d : Nat) (hs : List HeadD) (w : World) (hn : n ≤ maxLen) (h1 : ListX (HeadC w X) w X 3 A n hs) (h2 : ListX (HeadC w Y) w Y 3 B n hs) :
    Calls Try.prog 8 #[.slice A n c, .slice B n d] w fun e w' => e = .returned (.bool true) ∧ ∃ k, w' = w.drewN k := by
  have HLEN := Lib.hid (show hs.length = n from h1.len)
  have H1 := Lib.hid h1
  have H2 := Lib.hid h2
  clear h1 h2
  simp only [maxLen] at hn
  go_enter Try.func8, Try.ntmps8
  go_wp2_with fail
  go_loopw [13] (fun i wr => ∃ k q : Nat, k ≤ n ∧ i = .int .i64 k ∧ wr = w.drewN q) (fun i _ => n - (intOf i).toNat)
  case atStart => exact ⟨0, 0, Nat.zero_le _, rfl, rfl⟩
  case round =>
    obtain ⟨k, q, hk, rfl, hw⟩ := hrel
    by_cases hlt : k < n
    · obtain ⟨x, hx⟩ : ∃ z, hs[k]? = some z := ⟨_, List.getElem?_eq_getElem (by rw [HLEN.out]; exact hlt)⟩
      have hb : Below w.heap.size w wr := by rw [hw]; exact below_drewN (Below.refl _ _) q
      obtain ⟨b, off, A', c', rfl, _, _, d0, d1, d2, hr, _, hxl⟩ := head_at (H1.out.keep (Keeps.any hb) (fun _ _ => HeadC.keep (Keeps.any hb))) hx
      obtain ⟨b', off', B', c2', rfl, _, _, e0, e1, e2, hr2, _, _⟩ := head_at (H2.out.keep (Keeps.any hb) (fun _ _ => HeadC.keep (Keeps.any hb))) hx
      simp only [maxLen] at hxl
      have HS := Lib.hid (fun (qq : Nat) => show Calls Try.prog 10 #[.slice A' x.rules.length c', .slice B' x.rules.length c2'] (wr.drewN qq) fun e w' => e = .returned (.bool true) ∧ ∃ k, w' = (wr.drewN qq).drewN k by
        have := ref9_same A' B' x.rules.length x.rules.length c' c2' x.rules x.rules (wr.drewN qq) (by omega) hr hr2
        rwa [show (x.rules == x.rules) = true by simp] at this)
      have HW := Lib.hid hw
      clear hx hr hr2 hw hb
      go_wp2_with fail
      go_quiet (first | (go_at_call 10; exact Calls.quiet_of (HS.out _)))
      go_wp2_with fail
      exact ⟨⟨k + 1, q + nq, by omega, by go_num, by rw [HW.out, World.drewN_drewN]⟩, by simp [intOf]; omega⟩
    · obtain rfl : k = n := by omega
      have HW := Lib.hid hw
      clear hw
      go_wp2_with fail
      go_ret
      exact ⟨rfl, _, HW.out⟩

end Go.Proofs.Ytebpmfejhfkagaa
