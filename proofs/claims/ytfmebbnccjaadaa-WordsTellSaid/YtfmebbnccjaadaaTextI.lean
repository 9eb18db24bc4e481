/- A text behind an interface value (match.Runes): what the walks of match.all and match.Here ask of it. allP, plain. The walk of match.all. -/
import Derived.Test.YtfmebbnccjaadaaBegin
import Derived.Deep.DeepCutAuto
import Derived.Deep.CutBlock
namespace Go.Proofs.Ytfmebbnccjaadaa
open Go.RowKit

/-- The sets have the runes, one by one. -/
def hasAll : List Spans → List Int → Bool
  | [], _ => true
  | _ :: _, [] => false
  | s :: l, x :: t => hasP s x && hasAll l t
/-- Sets have the runes of a text from a place on. -/
def allP (t : List Int) (p : Int) (l : List Spans) : Bool := if p < 0 ∨ (t.length : Int) - (l.length : Int) < p then false else hasAll l (t.drop p.toNat)

/-- An interface value of type tI, behind it xI: the text T, while R holds of the world. -/
structure TextI (tI : TypeId) (xI recv : Value) (fL fR : FuncId) (T : List Int) (R : World → Prop) : Prop where
  enterL : ∀ args w, (callFunc fL args).run Try.prog w = .ok (.enter fL args) w
  enterR : ∀ args w, (callFunc fR args).run Try.prog w = .ok (.enter fR args) w
  ml : ∀ w, R w → (method 299 tI xI "Len").run Try.prog w = .ok (fL, recv) w
  mr : ∀ w, R w → (method 299 tI xI "Rune").run Try.prog w = .ok (fR, recv) w
  len : ∀ w, R w → Calls Try.prog fL #[recv] w fun e w' => e = .returned (.int .i64 T.length) ∧ ∃ k, w' = w.drewN k
  rune : ∀ w (k : Nat) x, R w → T[k]? = some x → Calls Try.prog fR #[recv, .int .i64 k] w fun e w' => e = .returned (.int .i32 x) ∧ ∃ k, w' = w.drewN k
  keep : ∀ w w', R w → Below w.heap.size w w' → R w'

theorem allP_neg {t : List Int} {p : Int} {l : List Spans} (h : p < 0) : allP t p l = false := by unfold allP; rw [if_pos (.inl h)]
theorem allP_far {t : List Int} {p : Int} {l : List Spans} (h : (t.length : Int) - (l.length : Int) < p) : allP t p l = false := by unfold allP; rw [if_pos (.inr h)]
theorem allP_in {t : List Int} {q : Nat} {l : List Spans} (h : q + l.length ≤ t.length) : allP t q l = hasAll l (t.drop q) := by
  unfold allP
  rw [if_neg (by omega)]
  rfl
theorem hasAll_step {l : List Spans} {t : List Int} {j q : Nat} {s : Spans} {x : Int} (hs : l[j]? = some s) (hx : t[q + j]? = some x) : hasAll (l.drop j) (t.drop (q + j)) = (hasP s x && hasAll (l.drop (j + 1)) (t.drop (q + (j + 1)))) := by
  rw [drop_at hs, drop_at hx]
  rfl
def MaRel (w : World) (R : World → Prop) (T : List Int) (l : List Spans) (q n : Nat) (i : Value) (wr : World) : Prop :=
  ∃ j : Nat, j ≤ n ∧ i = .int .i64 j ∧ hasAll l (T.drop q) = hasAll (l.drop j) (T.drop (q + j)) ∧ R wr ∧ Below w.heap.size w wr

set_option maxRecDepth 100000 in
set_option maxHeartbeats 1600000 in
theorem match_all {tI : TypeId} {xI recv : Value} {fL fR : FuncId} {T : List Int} {R : World → Prop} (I : TextI tI xI recv fL fR T R) (p : Int) (X : Nat → Prop) (l : List Spans) (A : Option Addr) (n c : Nat) (w : World)
    (hT : T.length ≤ 1000000) (hp : -1000000 ≤ p ∧ p ≤ 1000000) (hn : n ≤ 20) (hS : ∀ s ∈ l, RightSet s) (hl : ListX (SetC w X) w X 1 A n l) (hR : R w) :
    Calls Try.prog 112 #[.iface tI xI, .int .i64 p, .slice A n c] w fun e w' => e = .returned (.bool (allP T p l)) ∧ Below w.heap.size w w' := by
  have HLEN := Lib.hid (show l.length = n from hl.len)
  have HL := Lib.hid hl
  have HS := Lib.hid hS
  have HI := Lib.hid I
  have HR := Lib.hid hR
  have eL := I.enterL
  have eR := I.enterR
  have mL := I.ml w hR
  have HLN := Lib.hid (I.len w hR)
  clear hl hS I hR
  by_cases h0 : p < 0
  · have hd : decide (p < 0) = true := decide_eq_true h0
    have HP := Lib.hid (allP_neg (t := T) (l := l) h0)
    go_enter Try.func112, Try.ntmps112
    go_wp2_with fail
    go_ret
    exact ⟨ret_bool HP.out.symm, Below.refl _ _⟩
  · obtain ⟨q, rfl⟩ : ∃ q : Nat, p = (q : Int) := ⟨p.toNat, by omega⟩
    have hd : decide ((q : Int) < 0) = false := decide_eq_false h0
    by_cases hfar : T.length < q + n
    · have hd2 : decide ((T.length : Int) - (n : Int) < (q : Int)) = true := decide_eq_true (by omega)
      have HP := Lib.hid (allP_far (t := T) (p := (q : Int)) (l := l) (by rw [HLEN.out]; omega))
      go_enter Try.func112, Try.ntmps112
      go_wp2_with fail
      refine HLN.out.mono ?_
      rintro e w1 ⟨rfl, k1, rfl⟩
      go_wp2_with fail
      go_ret
      exact ⟨ret_bool HP.out.symm, below_drewN (Below.refl _ _) k1⟩
    · have hd2 : decide ((T.length : Int) - (n : Int) < (q : Int)) = false := decide_eq_false (by omega)
      have HP := Lib.hid (allP_in (t := T) (q := q) (l := l) (by rw [HLEN.out]; omega))
      go_enter Try.func112, Try.ntmps112
      go_wp2_with fail
      refine HLN.out.mono ?_
      rintro e w1 ⟨rfl, k1, rfl⟩
      go_wp2_with fail
      clear mL
      go_loopw [22] (MaRel w R T l q n) (fun i _ => n - (intOf i).toNat)
      case atStart => exact ⟨0, Nat.zero_le _, rfl, rfl, HI.out.keep _ _ HR.out (below_drewN (Below.refl _ _) k1), below_drewN (Below.refl _ _) k1⟩
      case round =>
        obtain ⟨j, hj, rfl, hgo, hRw, hb⟩ := hrel
        by_cases hlt : j < n
        · obtain ⟨s, hs⟩ : ∃ z, l[j]? = some z := ⟨_, List.getElem?_eq_getElem (by rw [HLEN.out]; exact hlt)⟩
          obtain ⟨x, hx⟩ : ∃ z, T[q + j]? = some z := ⟨_, List.getElem?_eq_getElem (by omega)⟩
          obtain ⟨b, off, A', n', c', rfl, _, hbb, hcx, hrd, _, _⟩ := sets_at (HL.out.keep (Keeps.any hb) (fun _ _ => SetC.keep (Keeps.any hb))) hs
          rw [hasAll_step hs hx] at hgo
          have HGO := Lib.hid hgo
          have HB := Lib.hid hb
          have HRS := Lib.hid (HS.out s (List.mem_of_getElem? hs))
          have mR := HI.out.mr wr hRw
          have HRN := Lib.hid (HI.out.rune wr (q + j) x hRw hx)
          have HRW := Lib.hid hRw
          have HRD := Lib.hid hrd
          clear hs hx hgo hb hrd hRw
          go_wp2_with fail
          refine HRN.out.mono ?_
          rintro e w2 ⟨rfl, k2, rfl⟩
          have HB2 := Lib.hid (below_drewN HB.out k2)
          have HHS := Lib.hid (sets_has A' n' c' s x (wr.drewN k2) HRS.out HRD.out)
          clear HRN HRD
          go_wp2_with fail
          refine HHS.out.mono ?_
          rintro e w3 ⟨rfl, hb3⟩
          have HB3 := Lib.hid (HB2.out.trans (hb3.mono HB2.out.size))
          have HR3 := Lib.hid (HI.out.keep _ _ HRW.out ((below_drewN (Below.refl wr.heap.size wr) k2).trans hb3))
          clear hb3 HHS
          cases hh : hasP s x
          · have HGO2 := Lib.hid (HP.out.trans (HGO.out.trans (by rw [hh, Bool.false_and])))
            clear hh
            go_wp2_with fail
            go_ret
            exact ⟨ret_bool HGO2.out.symm, HB3.out⟩
          · have HGO2 := Lib.hid (HGO.out.trans (by rw [hh, Bool.true_and]))
            clear hh
            go_wp2_with fail
            exact ⟨⟨j + 1, by omega, by go_num, HGO2.out, HR3.out, HB3.out⟩, by simp [intOf]; omega⟩
        · obtain rfl : j = n := by omega
          rw [show l.drop j = [] from List.drop_of_length_le (by rw [HLEN.out]; exact Nat.le_refl _)] at hgo
          have HGO := Lib.hid (HP.out.trans (hgo.trans (show hasAll [] (T.drop (q + j)) = true from rfl)))
          have HB := Lib.hid hb
          clear hgo hb hRw
          go_wp2_with fail
          go_ret
          exact ⟨ret_bool HGO.out.symm, HB.out⟩

end Go.Proofs.Ytfmebbnccjaadaa
