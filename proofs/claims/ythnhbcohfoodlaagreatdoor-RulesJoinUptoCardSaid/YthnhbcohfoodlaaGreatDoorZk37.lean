/- CurSpan -/
import Derived.Test.YthnhbcohfoodlaaGreatDoorZk36
import Derived.Test.YthnhbcohfoodlaaGreatDoorZk32
namespace Go.Proofs.YthnhbcohfoodlaaGreatDoor
open Go.RowKit
theorem cur_peek2 (w : World) (C : Nat) (A : Option Addr) (n c : Nat) (L : List Int) (i : Nat) (h : CurAt w C A n c L i) :
    Calls Tryz.prog 57 #[.pointer (some ⟨C, 0, none⟩)] w fun e w' => e = .returned (.int .i32 (pk L i)) ∧ CurAt w' C A n c L i ∧ But w C w' :=
  (cur_peek w C A n c L i h).mono fun e w' ⟨he, m, hw⟩ => ⟨he, by rw [hw]; exact h.drewN m, by rw [hw]; exact But.drewN w C m⟩
theorem cur_look2 (w : World) (C : Nat) (A : Option Addr) (n c : Nat) (L : List Int) (i k : Nat) (h : CurAt w C A n c L i) (hk : k ≤ 1000) :
    Calls Tryz.prog 77 #[.pointer (some ⟨C, 0, none⟩), .int .i64 k] w fun e w' => e = .returned (.int .i32 (pk L (i + k))) ∧ CurAt w' C A n c L i ∧ But w C w' :=
  (cur_look w C A n c L i k h hk).mono fun e w' ⟨he, m, hw⟩ => ⟨he, by rw [hw]; exact h.drewN m, by rw [hw]; exact But.drewN w C m⟩
def SetPost (w : World) (C : Nat) (A : Option Addr) (n c : Nat) (L : List Int) (r : Rdg Spans) (e : Ending) (w' : World) : Prop :=
  match r with
  | .ok (s, j) => (∃ B m d, e = .returned (.slice B m d) ∧ RdX w' (fun b => w.heap.size ≤ b) 2 B m (spanCells s) ∧ m ≤ d) ∧ CurAt w' C A n c L j ∧ But w C w'
  | .error (x, p) => e = thrown x p ∧ But w C w'
def spanS (L : List Int) (i : Nat) : Rdg Spans := match spanP L i with
  | .error e => .error e
  | .ok (x, j) => .ok ([x], j)
theorem spanS_e1 {L : List Int} {i : Nat} {e : Int × Nat} (h : charP L i = .error e) : spanS L i = .error e := by unfold spanS spanP; rw [h]
theorem spanS_one {L : List Int} {i j : Nat} {x : Int} (h : charP L i = .ok (x, j)) (h2 : ¬ (pk L j = 45 ∧ pk L (j + 1) ≠ 91)) : spanS L i = .ok ([(x, x)], j) := by unfold spanS spanP; rw [h]; simp only; rw [if_neg h2]
theorem spanS_e2 {L : List Int} {i j : Nat} {x : Int} {e : Int × Nat} (h : charP L i = .ok (x, j)) (h2 : pk L j = 45 ∧ pk L (j + 1) ≠ 91) (h3 : charP L (j + 1) = .error e) : spanS L i = .error e := by
  unfold spanS spanP; rw [h]; simp only; rw [if_pos h2, h3]
theorem spanS_e3 {L : List Int} {i j k : Nat} {x y : Int} (h : charP L i = .ok (x, j)) (h2 : pk L j = 45 ∧ pk L (j + 1) ≠ 91) (h3 : charP L (j + 1) = .ok (y, k)) (h4 : y < x) : spanS L i = .error (3, j + 1) := by
  unfold spanS spanP; rw [h]; simp only; rw [if_pos h2, h3]; simp only; rw [if_pos h4]
theorem spanS_two {L : List Int} {i j k : Nat} {x y : Int} (h : charP L i = .ok (x, j)) (h2 : pk L j = 45 ∧ pk L (j + 1) ≠ 91) (h3 : charP L (j + 1) = .ok (y, k)) (h4 : ¬ y < x) : spanS L i = .ok ([(x, y)], k) := by
  unfold spanS spanP; rw [h]; simp only; rw [if_pos h2, h3]; simp only; rw [if_neg h4]
theorem span_made {w W : World} {C : Nat} {A : Option Addr} {n c : Nat} {L : List Int} {j : Nat} (x y : Int) (h : CurAt W C A n c L j) (hb : But w C W) :
    SetPost w C A n c L (.ok ([(x, y)], j)) (.returned (.slice (some ⟨W.heap.size, 0, none⟩) 1 1)) (W.alloc (.cells #[.int .i32 x, .int .i32 y] 74)) :=
  ⟨⟨_, 1, 1, rfl, RdX.new 74 [.int .i32 x, .int .i32 y] rfl hb.1, Nat.le_refl _⟩, h.below ((Below.refl _ _).alloc (Nat.le_refl _) _), hb.trans (But.below C ((Below.refl _ _).alloc (Nat.le_refl _) _))⟩
set_option maxHeartbeats 3200000 in
set_option maxRecDepth 100000 in
theorem cur_span (w : World) (C : Nat) (A : Option Addr) (n c : Nat) (L : List Int) (i : Nat) (h : CurAt w C A n c L i) (hL : ValidL L) :
    Calls Tryz.prog 79 #[.pointer (some ⟨C, 0, none⟩)] w (SetPost w C A n c L (spanS L i)) := by
  have hs := h.size
  have hlen := h.len
  have HC := Lib.hid h
  have HPK := Lib.hid (fun (W : World) (k : Nat) (h : CurAt W C A n c L k) => cur_peek2 W C A n c L k h)
  have HLK := Lib.hid (fun (W : World) (k : Nat) (h : CurAt W C A n c L k) => cur_look2 W C A n c L k 1 h (by decide))
  have HCH := Lib.hid (fun (W : World) (k : Nat) (h : CurAt W C A n c L k) => cur_char W C A n c L k h hL)
  have HOK := Lib.hid hL.ok
  clear h hL
  obtain ⟨R, hR⟩ : ∃ R, spanS L i = R := ⟨_, rfl⟩
  rw [hR]
  have HR0 := Lib.hid hR
  clear hR
  have H1 := Lib.hid (HCH.out w i HC.out)
  cases h1 : charP L i with
  | error e0 =>
    obtain ⟨x, p⟩ := e0
    rw [h1] at H1
    have HR := Lib.hid (HR0.out.symm.trans (spanS_e1 h1))
    clear h1
    go_enter Tryz.func79, Tryz.ntmps79
    go_wp2_with fail
    refine H1.out.mono ?_
    rintro e w5 ⟨he, hb⟩
    unfold thrown at he
    subst he
    have HB5 := Lib.hid hb
    clear hb
    go_wp2_with fail
    rw [HR.out]
    exact ⟨rfl, rfl, HB5.out⟩
  | ok q =>
    obtain ⟨x, j⟩ := q
    rw [h1] at H1
    have HC1 := Lib.hid h1
    obtain ⟨_, hx0, hx1⟩ := charP_ok HOK.out h1
    clear h1
    by_cases hd : pk L j = 45
    · have hjlt : j < n := by rw [← hlen]; exact pk_lt (by omega)
      have HPK1 := Lib.hid (fun (W : World) (h : CurAt W C A n c L j) => show Calls Tryz.prog 57 #[.pointer (some ⟨C, 0, none⟩)] W fun e w' => e = .returned (.int .i32 45) ∧ CurAt w' C A n c L j ∧ But W C w' by have := HPK.out W j h; rwa [hd] at this)
      by_cases hb : pk L (j + 1) = 91
      · have HR := Lib.hid (HR0.out.symm.trans (spanS_one HC1.out (fun h => h.2 hb)))
        have HLK1 := Lib.hid (fun (W : World) (h : CurAt W C A n c L j) => show Calls Tryz.prog 77 #[.pointer (some ⟨C, 0, none⟩), .int .i64 1] W fun e w' => e = .returned (.int .i32 91) ∧ CurAt w' C A n c L j ∧ But W C w' by have := HLK.out W j h; rwa [hb] at this)
        clear hd hb
        go_enter Tryz.func79, Tryz.ntmps79
        go_wp2_with fail
        refine H1.out.mono ?_
        rintro e w5 ⟨rfl, hc, hb⟩
        have HC5 := Lib.hid hc
        have HB5 := Lib.hid hb
        clear hb hc
        go_wp2_with fail
        refine (HPK1.out _ HC5.out).mono ?_
        rintro e w6 ⟨rfl, hc, hb⟩
        have HC6 := Lib.hid hc
        have HB6 := Lib.hid (HB5.out.trans hb)
        clear hb hc
        go_wp2_with fail
        refine (HLK1.out _ HC6.out).mono ?_
        rintro e w7 ⟨rfl, hc, hb⟩
        have HC7 := Lib.hid hc
        have HB7 := Lib.hid (HB6.out.trans hb)
        clear hb hc
        go_wp2_with fail
        go_ret
        rw [HR.out]
        exact span_made x x HC7.out HB7.out
      · have HLK1 := Lib.hid (fun (W : World) (h : CurAt W C A n c L j) => HLK.out W j h)
        have hq : (pk L (j + 1) != 91) = true := by simp; exact hb
        have HCN := Lib.hid (And.intro hd hb)
        generalize pk L (j + 1) = r2 at hq HLK1
        have H2 := Lib.hid (fun (W : World) (h : CurAt W C A n c L (j + 1)) => HCH.out W (j + 1) h)
        have hcast : ((j + 1 : Nat) : Int) = (j : Int) + 1 := by omega
        have hw1 : IntKind.i64.wrap ((j : Int) + 1) = (j : Int) + 1 := wrap_small _ (by omega) (by omega)
        clear hd hb
        cases h2 : charP L (j + 1) with
        | error e0 =>
          obtain ⟨x2, p2⟩ := e0
          rw [h2] at H2
          have HR := Lib.hid (HR0.out.symm.trans (spanS_e2 HC1.out HCN.out h2))
          clear h2
          go_enter Tryz.func79, Tryz.ntmps79
          go_wp2_with fail
          refine H1.out.mono ?_
          rintro e w5 ⟨rfl, hc, hb⟩
          have HC5 := Lib.hid hc
          have HB5 := Lib.hid hb
          clear hb hc
          go_wp2_with fail
          refine (HPK1.out _ HC5.out).mono ?_
          rintro e w6 ⟨rfl, hc, hb⟩
          have HC6 := Lib.hid hc
          have HB6 := Lib.hid (HB5.out.trans hb)
          clear hb hc
          go_wp2_with fail
          refine (HLK1.out _ HC6.out).mono ?_
          rintro e w7 ⟨rfl, hc, hb⟩
          have HC7 := Lib.hid hc
          have HB7 := Lib.hid (HB6.out.trans hb)
          clear hb hc
          obtain ⟨d1, d2, d3, d4⟩ := HC7.out.step hjlt
          have HC8 := Lib.hid d3
          have HB8 := Lib.hid (HB7.out.trans d4)
          clear d3 d4
          go_wp2_with fail
          refine (H2.out _ HC8.out).mono ?_
          rintro e w9 ⟨he, hb⟩
          unfold thrown at he
          subst he
          have HB9 := Lib.hid (HB8.out.trans hb)
          clear hb
          go_wp2_with fail
          rw [HR.out]
          exact ⟨rfl, rfl, HB9.out⟩
        | ok q =>
          obtain ⟨y, k⟩ := q
          rw [h2] at H2
          have HC2 := Lib.hid h2
          obtain ⟨_, hy0, hy1⟩ := charP_ok HOK.out h2
          clear h2
          go_enter Tryz.func79, Tryz.ntmps79
          go_wp2_with fail
          refine H1.out.mono ?_
          rintro e w5 ⟨rfl, hc, hb⟩
          have HC5 := Lib.hid hc
          have HB5 := Lib.hid hb
          clear hb hc
          go_wp2_with fail
          refine (HPK1.out _ HC5.out).mono ?_
          rintro e w6 ⟨rfl, hc, hb⟩
          have HC6 := Lib.hid hc
          have HB6 := Lib.hid (HB5.out.trans hb)
          clear hb hc
          go_wp2_with fail
          refine (HLK1.out _ HC6.out).mono ?_
          rintro e w7 ⟨rfl, hc, hb⟩
          have HC7 := Lib.hid hc
          have HB7 := Lib.hid (HB6.out.trans hb)
          clear hb hc
          obtain ⟨d1, d2, d3, d4⟩ := HC7.out.step hjlt
          have HC8 := Lib.hid d3
          have HB8 := Lib.hid (HB7.out.trans d4)
          clear d3 d4
          go_wp2_with fail
          refine (H2.out _ HC8.out).mono ?_
          rintro e w9 ⟨rfl, hc, hb⟩
          have HC9 := Lib.hid hc
          have HB9 := Lib.hid (HB8.out.trans hb)
          clear hb hc
          by_cases hlt : y < x
          · have HR := Lib.hid (HR0.out.symm.trans (spanS_e3 HC1.out HCN.out HC2.out hlt))
            have HF := Lib.hid (fun (W : World) => syn_fail 3 ((j : Int) + 1) W)
            go_wp2_with fail
            refine (HF.out _).mono ?_
            rintro e w10 ⟨rfl, rfl⟩
            go_wp2_with fail
            rw [HR.out]
            exact ⟨rfl, by rw [thrown, hcast], HB9.out⟩
          · have HR := Lib.hid (HR0.out.symm.trans (spanS_two HC1.out HCN.out HC2.out hlt))
            go_wp2_with fail
            go_ret
            rw [HR.out]
            exact span_made x y HC9.out HB9.out
    · have HR := Lib.hid (HR0.out.symm.trans (spanS_one HC1.out (fun h => hd h.1)))
      have hq : (pk L j == 45) = false := by simp; exact hd
      go_enter Tryz.func79, Tryz.ntmps79
      go_wp2_with fail
      refine H1.out.mono ?_
      rintro e w5 ⟨rfl, hc, hb⟩
      have HC5 := Lib.hid hc
      have HB5 := Lib.hid hb
      clear hb hc
      go_wp2_with fail
      refine (HPK.out _ _ HC5.out).mono ?_
      rintro e w6 ⟨rfl, hc, hb⟩
      have HC6 := Lib.hid hc
      have HB6 := Lib.hid (HB5.out.trans hb)
      clear hb hc
      go_wp2_with fail
      go_ret
      rw [HR.out]
      exact span_made x x HC6.out HB6.out
end Go.Proofs.YthnhbcohfoodlaaGreatDoor
