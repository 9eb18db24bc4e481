/- Cursor + CurFail + CurSkip + CurPlain + CurHex -/
import Derived.Test.YthnhbcohfoodlaaGreatDoorZq26
import Derived.Test.YthnhbcohfoodlaaGreatDoorZq22
import Derived.Test.YthnhbcohfoodlaaGreatDoorZq9
set_option maxHeartbeats 3200000
set_option maxRecDepth 100000
namespace Go.Proofs.YthnhbcohfoodlaaGreatDoor
open Go.RowKit
def kF (w : World) (g : Nat) (cs : Array Value) : Prop := ∃ t, aM w g t cs
section
variable {w w' : World} {g : Nat} {cs : Array Value}
theorem kF.lt (h : kF w g cs) : g < w.heap.size := let ⟨_, hb⟩ := h; hb.lt
theorem kF.cell (h : kF w g cs) (i : Nat) : w.cell? ⟨g, i, none⟩ = cs[i]? := let ⟨_, hb⟩ := h; hb.cell i
theorem kF.frozen (h : kF w g cs) (i : Nat) : w.frozen? ⟨g, i, none⟩ = false := let ⟨_, hb⟩ := h; hb.frozen i
theorem kF.drewN (h : kF w g cs) (n : Nat) : kF (w.drewN n) g cs := h
theorem kF.put (h : kF w g cs) (i : Nat) (u : Value) : kF (w.setCell ⟨g, i, none⟩ u) g (cs.setIfInBounds i u) := let ⟨t, hb⟩ := h; ⟨t, hb.put i u⟩
theorem kF.below {B : Nat} (h : kF w g cs) (hb : Below B w w') (hg : g < B) : kF w' g cs := let ⟨t, hc⟩ := h; ⟨t, hc.below hb hg⟩
theorem kF.same (h : kF w g cs) (he : w'.heap[g]? = w.heap[g]?) : kF w' g cs := let ⟨t, hc⟩ := h; ⟨t, he.trans hc⟩
end
structure au (w : World) (C : Nat) (A : Option Addr) (n c : Nat) (L : List Int) (i : Nat) : Prop where
  cX : kF w C #[.slice A n c, .int .i64 i]
  row : di w (fun b => b ≠ C) 1 A n (ax L)
  size : n ≤ 4611686018427387904
  le : i ≤ n
  cap : n ≤ c
theorem au.len {w : World} {C : Nat} {A : Option Addr} {n c : Nat} {L : List Int} {i : Nat} (h : au w C A n c L i) : L.length = n := by
 have := h.row.1; rw [bt] at this; omega
theorem au.drewN {w : World} {C : Nat} {A : Option Addr} {n c : Nat} {L : List Int} {i : Nat} (h : au w C A n c L i) (k : Nat) : au (w.drewN k) C A n c L i :=
  ⟨h.cX.drewN k, h.row.keep (aC.any (below_drewN (Below.refl _ _) k)), h.size, h.le, h.cap⟩
theorem wW (w : World) (C : Nat) (A : Option Addr) (n c : Nat) (L : List Int) (i k : Nat) (h : au w C A n c L i) (hk : k ≤ 1000) :
    Calls Tryz.prog 77 #[.pointer (some ⟨C, 0, none⟩), .int .i64 k] w fun e w' => e = .returned (.int .i32 (pk L (i + k))) ∧ ∃ m, w' = w.drewN m := by
 have c0 := h.cX.cell 0;have c1 := h.cX.cell 1;have hl := h.len;have hs := h.size;have hi := h.le;have hw1 : IntKind.i64.wrap ((i : Int) + k) = ((i + k : Nat) : Int) := (by rw [wrap_small _ (by omega) (by omega)]; omega);by_cases hlt : i + k < n
 ·obtain ⟨x, hx⟩ : ∃ x, L[i + k]? = some x := ⟨_, List.getElem?_eq_getElem (by omega)⟩;rw [uh hx];obtain ⟨b, o, rfl, _, _, hc⟩ := h.row.2 (by omega);have d0 : w.cell? ⟨b, o + (i + k), none⟩ = some (.int .i32 x) := hc _ _ (by simp [ax, hx]);have hg : decide ((n : Int) ≤ ((i + k : Nat) : Int)) = false := decide_eq_false (by omega);have Cr : (0 : Int) ≤ ((i + k : Nat) : Int) := (by omega);have mT : ((i + k : Nat) : Int) < (n : Int) := (by omega);clear hc h hx hl;go_enter Tryz.func77, Tryz.ntmps77;go_wp2_with fail;go_quiet (fail);go_wp2_with fail;go_quiet (fail);go_wp2_with fail;go_ret;exact ⟨rfl, _, by rw [World.drewN_drewN]⟩
 rw [lP (by omega)];have hg : decide ((n : Int) ≤ ((i + k : Nat) : Int)) = true := decide_eq_true (by omega);clear h hl;go_enter Tryz.func77, Tryz.ntmps77;go_wp2_with fail;go_quiet (fail);go_wp2_with fail;go_ret;exact ⟨rfl, _, rfl⟩
theorem ko (w : World) (C : Nat) (A : Option Addr) (n c : Nat) (L : List Int) (i : Nat) (h : au w C A n c L i) :
    Calls Tryz.prog 57 #[.pointer (some ⟨C, 0, none⟩)] w fun e w' => e = .returned (.int .i32 (pk L i)) ∧ ∃ m, w' = w.drewN m := by
 have HL := Lib.hid (show Calls Tryz.prog 77 #[.pointer (some ⟨C, 0, none⟩), .int .i64 0] w fun e w' => e = .returned (.int .i32 (pk L i)) ∧ ∃ m, w' = w.drewN m from wW w C A n c L i 0 h (Nat.zero_le _));clear h;go_enter Tryz.func57, Tryz.ntmps57;go_wp2_with fail;refine HL.out.mono ?_;rintro e w1 ⟨rfl, hm⟩;go_wp2_with fail;go_ret;exact ⟨rfl, hm⟩
theorem bW (e p : Int) (w : World) :
    Calls Tryz.prog 37 #[.int .i64 e, .int .i64 p] w fun en w' => en = .panicked [{ v := .iface 126 (.agg #[.int .i64 e, .int .i64 p]), recovered := false }] ∧ w' = w := by
 go_enter Tryz.func37, Tryz.ntmps37;go_wp2_with fail;exact ⟨rfl, rfl, rfl⟩
theorem pq (r : Int) (w : World) :
    Calls Tryz.prog 75 #[.int .i32 r] w fun e w' => e = .returned (.bool (jq r)) ∧ w' = w := by
 go_enter Tryz.func75, Tryz.ntmps75;go_wp2;(all_goals go_ret);(all_goals refine ⟨cw ?_, rfl⟩);(all_goals (rw [Bool.eq_iff_iff]; simp [jq]; try omega))
def aX (e p : Int) : Ending := .panicked [{ v := .iface 126 (.agg #[.int .i64 e, .int .i64 p]), recovered := false }]
theorem au.move {w : World} {C : Nat} {A : Option Addr} {n c : Nat} {L : List Int} {i j : Nat} (h : au w C A n c L i) (hj : j ≤ n) : au (w.setCell ⟨C, 1, none⟩ (.int .i64 j)) C A n c L j :=
  ⟨h.cX.put 1 _, h.row.keep (aC.setCell (p := ⟨C, 1, none⟩) _ (fun _ hb => hb) (fun _ h _ => h)), h.size, hj, h.cap⟩
theorem eA (w : World) (C : Nat) (A : Option Addr) (n c : Nat) (L : List Int) (i : Nat) (r : Int) (h : au w C A n c L i) (hr : r ≠ -1) :
    Calls Tryz.prog 59 #[.pointer (some ⟨C, 0, none⟩), .int .i32 r] w fun e w' =>
      match aH L i r with
      | .ok j => e = .returned (.tuple #[]) ∧ au w' C A n c L j ∧ aF w C w'
      | .error (x, p) => e = aX x p ∧ aF w C w' := by
 have fR := Lib.hid (ko w C A n c L i h);have HC := Lib.hid h;have hs := h.size;have hi := h.le;have hl := h.len;have hw1 : IntKind.i64.wrap ((i : Int) + 1) = ((i + 1 : Nat) : Int) := (by rw [wrap_small _ (by omega) (by omega)]; omega);clear h;unfold aH;by_cases he : pk L i = r
 ·have hlt : i < L.length := aS (by omega);rw [if_pos he];have hg : decide (pk L i = r) = true := decide_eq_true he;go_enter Tryz.func59, Tryz.ntmps59;go_wp2_with fail;refine fR.out.mono ?_;rintro e w1 ⟨rfl, m, rfl⟩;have eH := Lib.hid (HC.out.drewN m);have c0 := eH.out.cX.cell 0;have c1 := eH.out.cX.cell 1;have f1 := eH.out.cX.frozen 1;go_wp2_with fail;have hm := eH.out.move (j := i + 1) (by omega);rw [show (((i + 1 : Nat)) : Int) = (i : Int) + 1 by omega] at hm;go_end0;exact ⟨rfl, hm, (aF.drewN w C m).trans (aF.set _ C 1 _)⟩
 rw [if_neg he];go_enter Tryz.func59, Tryz.ntmps59;go_wp2_with fail;refine fR.out.mono ?_;rintro e w1 ⟨rfl, m, rfl⟩;have eH := Lib.hid (HC.out.drewN m);have c0 := eH.out.cX.cell 0;have c1 := eH.out.cX.cell 1;go_wp2_with fail;refine (bW 2 i _).mono ?_;rintro e w2 ⟨rfl, rfl⟩;go_wp2_with fail;exact ⟨rfl, rfl, aF.drewN w C m⟩
theorem gK (w : World) (C : Nat) (A : Option Addr) (n c : Nat) (L : List Int) (i : Nat) (h : au w C A n c L i) :
    Calls Tryz.prog 38 #[.pointer (some ⟨C, 0, none⟩)] w fun e w' => e = .returned (.tuple #[]) ∧ au w' C A n c L (aG L i) ∧ aF w C w' := by
 have HC := Lib.hid h;have hs := h.size;have hl := h.len;clear h;go_enter Tryz.func38, Tryz.ntmps38;go_wp2_with fail;go_loopw [2] (fun _ wr => ∃ j, j ≤ n ∧ aG L i = aG L j ∧ au wr C A n c L j ∧ aF w C wr) (fun _ wr => n - (match wr.cell? ⟨C, 1, none⟩ with | some (.int _ j) => j.toNat | _ => 0));(case atStart => exact ⟨i, HC.out.le, rfl, HC.out, aF.refl _ _⟩);obtain ⟨j, hj, Al, hc, hb⟩ := hrel;have HJ := Lib.hid hc;have HB := Lib.hid hb;have HS := Lib.hid Al;have fR := Lib.hid (ko wr C A n c L j hc);have hm0 := hc.cX.cell 1;have gT := Lib.hid hm0;have hw1 : IntKind.i64.wrap ((j : Int) + 1) = ((j + 1 : Nat) : Int) := (by rw [wrap_small _ (by omega) (by omega)]; omega);clear hc hb Al hm0;go_wp2_with fail;refine fR.out.mono ?_;rintro e w1 ⟨rfl, m, rfl⟩;have eH := Lib.hid (HJ.out.drewN m);go_wp2_with fail;refine (pq _ _).mono ?_;rintro e w2 ⟨rfl, rfl⟩;by_cases oo : jq (pk L j) = true
 ·rw [oo];have hlt : j < L.length := aS (fun e => by rw [e] at oo; exact absurd oo (by decide));have c0 := eH.out.cX.cell 0;have c1 := eH.out.cX.cell 1;have f1 := eH.out.cX.frozen 1;have xN := eH.out.move (j := j + 1) (by omega);rw [show (((j + 1 : Nat)) : Int) = (j : Int) + 1 by omega] at xN;have tv := Lib.hid xN;clear xN;go_wp2_with fail;refine ⟨⟨j + 1, by omega, HS.out.trans (bD hlt oo), tv.out, (HB.out.trans (aF.drewN wr C m)).trans (aF.set _ C 1 _)⟩, ?_⟩;have e1 : ((wr.drewN m).setCell ⟨C, 1, none⟩ (.int .i64 ((j : Int) + 1))).cell? ⟨C, 1, none⟩ = some (.int .i64 ((j + 1 : Nat) : Int)) := tv.out.cX.cell 1;have e2 : wr.cell? ⟨C, 1, none⟩ = some (.int .i64 (j : Int)) := gT.out;rw [e1, e2];simp only [Int.toNat_natCast];omega
 rw [Bool.not_eq_true] at oo;rw [oo];go_wp2_with fail;go_end0;refine ⟨rfl, ?_, HB.out.trans (aF.drewN wr C m)⟩;rw [HS.out, show aG L j = j from bw (fun _ => oo)];exact eH.out
def zx (r : Int) : Prop := r = -1 ∨ Utf8.valid r = true
def oh : ByteArray := ⟨#[91, 93, 38, 45, 94, 92, 58, 36, 40, 41, 123, 125, 60, 62, 124, 59, 35, 39, 34, 61, 44]⟩
theorem yq (r : Int) : (oh.data.toList.any fun b => decide ((b.toNat : Int) = r)) = jZ.contains r := by
 rw [Bool.eq_iff_iff];simp [oh, jZ];omega
theorem lX (r : Int) (w : World) (hr : zx r) :
    Calls Tryz.prog 128 #[.int .i32 r] w fun e w' => e = .returned (.bool (bL r)) ∧ Below w.heap.size w w' := by
 have HS := Lib.hid (show Calls Tryz.prog 154 #[.string oh, .int .i32 r] w fun e w' => e = .returned (.bool (jZ.contains r)) ∧ Below w.heap.size w w' by
  have := mN oh r w (by decide) (by decide) (by decide) hr;rw [yq] at this;exact this)
 clear hr;unfold bL;by_cases h0 : 0 ≤ r
 ·have hd : decide (0 ≤ r) = true := decide_eq_true h0;rw [hd];cases hb : jq r
  ·go_enter Tryz.func128, Tryz.ntmps128;go_wp2_with fail;refine (pq _ _).mono ?_;rintro e w1 ⟨rfl, hw⟩;rw [hw, hb];go_wp2_with fail;refine HS.out.mono ?_;rintro e w2 ⟨rfl, aU⟩;go_wp2_with fail;go_ret;exact ⟨by simp, aU⟩
  go_enter Tryz.func128, Tryz.ntmps128;go_wp2_with fail;refine (pq _ _).mono ?_;rintro e w1 ⟨rfl, hw⟩;rw [hw, hb];go_wp2_with fail;go_ret;exact ⟨by simp, Below.refl _ _⟩
 have hd : decide (0 ≤ r) = false := decide_eq_false h0;rw [hd];go_enter Tryz.func128, Tryz.ntmps128;go_wp2_with fail;go_ret;exact ⟨by simp, Below.refl _ _⟩
def cA (L : List Int) : Prop := ∀ x ∈ L, Utf8.valid x = true
theorem cA.ok {L : List Int} (h : cA L) : bY L := fun x hx => by
 have := h x hx;simp [Utf8.valid] at this;omega
theorem cA.pk {L : List Int} (h : cA L) (i : Nat) : zx (pk L i) := by
 unfold Go.Proofs.YthnhbcohfoodlaaGreatDoor.pk;cases hi : L[i]? with
 | none => exact .inl rfl
 | some x => exact .inr (h x (List.mem_of_getElem? hi))
theorem au.at {w : World} {C : Nat} {A : Option Addr} {n c : Nat} {L : List Int} {i : Nat} (h : au w C A n c L i) (h0 : 0 < n) :
    ∃ b off, A = some ⟨b, off, none⟩ ∧ b < w.heap.size ∧ ∀ j x, L[j]? = some x → w.cell? ⟨b, off + j, none⟩ = some (.int .i32 x) := by
 obtain ⟨b, off, e, _, hb, hc⟩ := h.row.2 h0;exact ⟨b, off, e, hb, fun j x hx => hc j _ (by rw [bO, hx]; rfl)⟩
theorem sO {w : World} {C : Nat} {b off n c : Nat} {L : List Int} {k : Nat} (h : au w C (some ⟨b, off, none⟩) n c L k) {i j : Nat} (hij : i ≤ j) (hj : j ≤ n) :
    (convert 61 9 (.slice (if c = i then some ⟨b, off, none⟩ else some ⟨b, off + i, none⟩) (j - i) (c - i))).run Tryz.prog w = .ok (.string (runesBytes (ay L i j))) w := by
 have hlen := h.len;have hcap := h.cap;by_cases hn : 0 < n
 ·obtain ⟨b', off', e, _, hc⟩ := h.at hn;cases e;have key : ∀ (o : Nat), o = off + i ∨ j - i = 0 → (convert 61 9 (.slice (some ⟨b, o, none⟩) (j - i) (c - i))).run Tryz.prog w = .ok (.string (runesBytes (ay L i j))) w := by
   intro o ho;rcases ho with rfl | ho
   ·have := run_convert_runes (P := Tryz.prog) w 61 9 21 ⟨b, off + i, none⟩ (j - i) (c - i) (ay L i j) (by unfold ay; rw [List.length_take, List.length_drop]; omega) Tryz.underlying61 Tryz.underlying21 Tryz.underlying9 (fun q hq => by
     rw [rN, Nat.add_assoc];unfold ay at hq ⊢;rw [List.length_take, List.length_drop] at hq;refine hc (i + q) _ ?_;rw [List.getD_eq_getElem?_getD, List.getElem?_take_of_lt (by omega), List.getElem?_drop];rw [List.getElem?_eq_getElem (by omega)];rfl)
    rw [show (ay L i j).take (j - i) = ay L i j from List.take_of_length_le (by unfold ay; rw [List.length_take]; omega)] at this;exact this
   have := run_convert_runes (P := Tryz.prog) w 61 9 21 ⟨b, o, none⟩ (j - i) (c - i) [] (by rw [ho]; simp) Tryz.underlying61 Tryz.underlying21 Tryz.underlying9 (fun q hq => by simp at hq);rw [show ([] : List Int).take (j - i) = ay L i j by unfold ay; rw [ho]; simp] at this;exact this
  split;exact key _ (.inr (by omega));exact key _ (.inl rfl)
 have := run_convert_runes (P := Tryz.prog) w 61 9 21 (if c = i then ⟨b, off, none⟩ else ⟨b, off + i, none⟩) (j - i) (c - i) [] (by rw [show j - i = 0 by omega]; simp) Tryz.underlying61 Tryz.underlying21 Tryz.underlying9 (fun q hq => by simp at hq);have e : (if c = i then some (⟨b, off, none⟩ : Addr) else some ⟨b, off + i, none⟩) = some (if c = i then (⟨b, off, none⟩ : Addr) else ⟨b, off + i, none⟩) := (by split <;> rfl);rw [show ([] : List Int).take (j - i) = ay L i j by unfold ay; rw [show j - i = 0 by omega]; simp] at this;rw [e];exact this
def yu (w : World) (C : Nat) (A : Option Addr) (n c : Nat) (L : List Int) (r : fH Int) (e : Ending) (w' : World) : Prop :=
  match r with
  | .ok (x, j) => e = .returned (.int .i32 x) ∧ au w' C A n c L j ∧ aF w C w'
  | .error (x, p) => e = aX x p ∧ aF w C w'
def Gq : ByteArray := ⟨#[48, 49, 50, 51, 52, 53, 54, 55, 56, 57, 97, 98, 99, 100, 101, 102, 65, 66, 67, 68, 69, 70]⟩
theorem Fm (r : Int) : (Gq.data.toList.any fun b => decide ((b.toNat : Int) = r)) = ct r := by
 rw [Bool.eq_iff_iff];simp [Gq, ct];omega
theorem vW (r : Int) (w : World) (hr : zx r) :
    Calls Tryz.prog 154 #[.string Gq, .int .i32 r] w fun e w' => e = .returned (.bool (ct r)) ∧ Below w.heap.size w w' := by
 have := mN Gq r w (by decide) (by decide) (by decide) hr;rw [Fm] at this;exact this
theorem au.below {w w' : World} {C : Nat} {A : Option Addr} {n c : Nat} {L : List Int} {i : Nat} (h : au w C A n c L i) (hb : Below w.heap.size w w') : au w' C A n c L i :=
  ⟨h.cX.below hb h.cX.lt, h.row.keep (aC.any hb), h.size, h.le, h.cap⟩
theorem AS {L : List Int} {i : Nat} {e : Int × Nat} (h : aH L (i + 1) 123 = .error e) : gp L i = .error e := by unfold gp; rw [h]
theorem Az {L : List Int} {i a r : Nat} (h : aH L (i + 1) 123 = .ok a) (hr : r = aq ct L a) (hb : r - a < 1 ∨ 6 < r - a) : gp L i = .error (2, a) := by
 subst hr; unfold gp; rw [h]; simp only; rw [if_pos hb]
theorem F7 {L : List Int} {i a r : Nat} {e : Int × Nat} (h : aH L (i + 1) 123 = .ok a) (hr : r = aq ct L a) (hb : ¬ (r - a < 1 ∨ 6 < r - a)) (h2 : aH L r 125 = .error e) : gp L i = .error e := by
 subst hr; unfold gp; rw [h]; simp only; rw [if_neg hb, h2]
theorem Fo {L : List Int} {i a r k : Nat} (h : aH L (i + 1) 123 = .ok a) (hr : r = aq ct L a) (hb : ¬ (r - a < 1 ∨ 6 < r - a)) (h2 : aH L r 125 = .ok k) (h3 : 1114111 < dg (ay L a r)) : gp L i = .error (3, i) := by
 subst hr; unfold gp; rw [h]; simp only; rw [if_neg hb, h2]; simp only; rw [if_pos h3]
theorem IF {L : List Int} {i a r k : Nat} (h : aH L (i + 1) 123 = .ok a) (hr : r = aq ct L a) (hb : ¬ (r - a < 1 ∨ 6 < r - a)) (h2 : aH L r 125 = .ok k) (h3 : ¬ 1114111 < dg (ay L a r)) : gp L i = .ok (dg (ay L a r), k) := by
 subst hr; unfold gp; rw [h]; simp only; rw [if_neg hb, h2]; simp only; rw [if_neg h3]
def NH (w : World) (C : Nat) (A : Option Addr) (n c : Nat) (L : List Int) (a r : Nat) (wr : World) : Prop :=
  ∃ j, a ≤ j ∧ j ≤ n ∧ r = aq ct L j ∧ au wr C A n c L j ∧ aF w C wr
theorem Ft (w : World) (C : Nat) (A : Option Addr) (n c : Nat) (L : List Int) (i : Nat) (h : au w C A n c L i) (hL : cA L) (hi : i < n) :
    Calls Tryz.prog 162 #[.pointer (some ⟨C, 0, none⟩)] w (yu w C A n c L (gp L i)) := by
 have hs := h.size;have hlen := h.len;obtain ⟨b, off, rfl, _, _⟩ := h.at (by omega);have HL := Lib.hid hL;have c0 := h.cX.cell 0;have c1 := h.cX.cell 1;have f1 := h.cX.frozen 1;have hw1 : IntKind.i64.wrap ((i : Int) + 1) = ((i + 1 : Nat) : Int) := (by rw [wrap_small _ (by omega) (by omega)]; omega);have hm := h.move (j := i + 1) (by omega);have Ir := aF.set w C 1 (.int .i64 ((i + 1 : Nat) : Int));rw [show (((i + 1 : Nat)) : Int) = (i : Int) + 1 by omega] at hm Ir;have HM := Lib.hid hm;have b8 := Lib.hid Ir;clear hL hm h Ir;obtain ⟨R, hR⟩ : ∃ R, gp L i = R := ⟨_, rfl⟩;rw [hR];have iM := Lib.hid hR;clear hR;cases hn : aH L (i + 1) 123 with
 | error e0 =>
  obtain ⟨x, p⟩ := e0;have HN := Lib.hid (eA _ C _ n c L (i + 1) 123 HM.out (by decide));rw [hn] at HN;go_enter Tryz.func162, Tryz.ntmps162;go_wp2_with fail;refine HN.out.mono ?_;rintro e w1 ⟨he, hb⟩;unfold aX at he;subst he;have BY := Lib.hid (b8.out.trans hb);clear hb HN;go_wp2_with fail;rw [show R = _ from iM.out.symm.trans (AS hn)];exact ⟨rfl, rfl, BY.out⟩
 | ok a =>
  have FW := Lib.hid hn;obtain ⟨rfl, hpk⟩ := dX hn;have HN := Lib.hid (eA _ C _ n c L (i + 1) 123 HM.out (by decide));rw [hn] at HN;have hi1 : i + 1 < n := (by rw [← hlen]; exact aS (by rw [hpk]; decide));clear hn;generalize ha : i + 1 + 1 = a at *;have E0 := Lib.hid (rm ct L a);generalize hr : aq ct L a = r at *;have mR := Lib.hid hr.symm;clear hr;go_enter Tryz.func162, Tryz.ntmps162;go_wp2_with fail;refine HN.out.mono ?_;rintro e w1 ⟨rfl, hc, hb⟩;have HC := Lib.hid hc;have cS := Lib.hid (b8.out.trans hb);have g0 := hc.cX.cell 0;have g1 := hc.cX.cell 1;clear hb hc HN b8 HM;go_wp2_with fail;go_loopw [25] (fun _ wr => NH w C (some ⟨b, off, none⟩) n c L a r wr) (fun _ wr => n - (match wr.cell? ⟨C, 1, none⟩ with | some (.int _ j) => j.toNat | _ => 0));(case atStart => exact ⟨a, Nat.le_refl _, HC.out.le, mR.out, HC.out, cS.out⟩);obtain ⟨j, CU, hj, hrun, lT, uM⟩ := hrel;have HJ := Lib.hid lT;have HB := Lib.hid uM;have HR := Lib.hid hrun;have fR := Lib.hid (fun (W : World) (h : au W C (some ⟨b, off, none⟩) n c L j) => ko W C (some ⟨b, off, none⟩) n c L j h);have gT := Lib.hid (lT.cX.cell 1);have hok := HL.out.pk j;have CW := Lib.hid (fun (W : World) => vW (pk L j) W hok);clear lT uM hrun;by_cases yR : ct (pk L j) = true
  ·rw [yR] at CW;have hlt : j < L.length := aS (fun e => by rw [e] at yR; exact absurd yR (by decide));have h0 : 0 ≤ pk L j := (l8 (l := [pk L j]) (by simpa using yR) _ (by simp)).1;have hg : decide (0 ≤ pk L j) = true := decide_eq_true h0;have yQ : IntKind.i64.wrap ((j : Int) + 1) = ((j + 1 : Nat) : Int) := (by rw [wrap_small _ (by omega) (by omega)]; omega);go_wp2_with fail;refine (fR.out _ HJ.out).mono ?_;rintro e w2 ⟨rfl, m, rfl⟩;go_wp2_with fail;refine (CW.out _).mono ?_;rintro e w3 ⟨rfl, bN⟩;have jK := Lib.hid ((HJ.out.drewN m).below bN);have bV := Lib.hid ((HB.out.trans (aF.drewN wr C m)).trans (aF.below C bN));clear bN;go_wp2_with fail;refine (fR.out _ jK.out).mono ?_;rintro e w4 ⟨rfl, m2, rfl⟩;have eH := Lib.hid (jK.out.drewN m2);have d0 := eH.out.cX.cell 0;have d1 := eH.out.cX.cell 1;have f2 := eH.out.cX.frozen 1;have xN := eH.out.move (j := j + 1) (by omega);rw [show (((j + 1 : Nat)) : Int) = (j : Int) + 1 by omega] at xN;have tv := Lib.hid xN;clear xN;go_wp2_with fail;refine ⟨⟨j + 1, by omega, by omega, HR.out.trans (bD hlt yR), tv.out, (bV.out.trans (aF.drewN w3 C m2)).trans (aF.set _ C 1 _)⟩, ?_⟩;have e1 : ((w3.drewN m2).setCell ⟨C, 1, none⟩ (.int .i64 ((j : Int) + 1))).cell? ⟨C, 1, none⟩ = some (.int .i64 ((j + 1 : Nat) : Int)) := tv.out.cX.cell 1;have e2 : wr.cell? ⟨C, 1, none⟩ = some (.int .i64 (j : Int)) := gT.out;rw [e1, e2];simp only [Int.toNat_natCast];omega
  rw [Bool.not_eq_true] at yR;rw [yR] at CW;obtain rfl : r = j := HR.out.trans (bw (fun _ => yR));clear HR;go_wp2_with fail;refine (fR.out _ HJ.out).mono ?_;rintro e w2 ⟨rfl, m, rfl⟩;go_wp2_with fail;refine (CW.out _).mono ?_;rintro e w3 ⟨rfl, bN⟩;have jK := Lib.hid ((HJ.out.drewN m).below bN);have bV := Lib.hid ((HB.out.trans (aF.drewN wr C m)).trans (aF.below C bN));clear bN;have d0 := jK.out.cX.cell 0;have d1 := jK.out.cX.cell 1;have kr := fun q => sO (jK.out.drewN q) CU hj;have mT : (a : Int) ≤ (r : Int) := (by omega);have hk2 : (r : Int) ≤ (c : Int) := (by have := jK.out.cap; omega);have G2 : (0 : Int) ≤ (a : Int) := (by omega);have hds : ∀ d ∈ ay L a r, ct d = true := (by rw [E0.out]; exact mM _);have RB := Lib.hid hds;have Mg : (ay L a r).length = r - a := (by unfold ay; rw [List.length_take, List.length_drop]; omega);have hsz : (runesBytes (ay L a r)).size = r - a := (by rw [qD (l8 hds), Mg]);have FU := Lib.hid (ez (l8 hds));generalize runesBytes (ay L a r) = s at *;clear hds;go_wp2_with fail;go_quiet (fail);have Sw := Lib.hid (jK.out.drewN nq);have Mc := Lib.hid (bV.out.trans (aF.drewN w3 C nq));generalize w3.drewN nq = wq at Sw Mc ⊢;generalize (if c = a then some ({ block := b, off := off } : Addr) else some { block := b, off := off + a }) = Z;clear kr d0 d1 jK bV HJ HB gT mT hk2 G2;rcases (show r - a < 1 ∨ 6 < r - a ∨ (1 ≤ r - a ∧ r - a ≤ 6) by omega) with gN | gN | ⟨uP, QU⟩
  ·have hz : s.size = 0 := (by omega);have HF := Lib.hid (fun (W : World) => bW 2 a W);go_wp2_with fail;refine (HF.out _).mono ?_;rintro e w5 ⟨rfl, rfl⟩;go_wp2_with fail;rw [show R = _ from iM.out.symm.trans (Az FW.out mR.out (.inl gN))];exact ⟨rfl, rfl, Mc.out⟩
  ·have HF := Lib.hid (fun (W : World) => bW 2 a W);have N4 : decide ((s.size : Int) < 1) = false := decide_eq_false (by omega);have KB : decide ((6 : Int) < (s.size : Int)) = true := decide_eq_true (by omega);go_wp2_with fail;refine (HF.out _).mono ?_;rintro e w5 ⟨rfl, rfl⟩;go_wp2_with fail;rw [show R = _ from iM.out.symm.trans (Az FW.out mR.out (.inr gN))];exact ⟨rfl, rfl, Mc.out⟩
  have N4 : decide ((s.size : Int) < 1) = false := decide_eq_false (by omega);have KB : decide ((6 : Int) < (s.size : Int)) = false := decide_eq_false (by omega);have HN := Lib.hid (eA wq C _ n c L r 125 Sw.out (by decide));have OA := Lib.hid (show ¬ (r - a < 1 ∨ 6 < r - a) by omega);cases hn2 : aH L r 125 with
  | error e0 =>
   obtain ⟨x, p⟩ := e0;rw [hn2] at HN;go_wp2_with fail;refine HN.out.mono ?_;rintro e w5 ⟨he, hb⟩;unfold aX at he;subst he;have BY := Lib.hid (Mc.out.trans hb);clear hb HN;go_wp2_with fail;rw [show R = _ from iM.out.symm.trans (F7 FW.out mR.out OA.out hn2)];exact ⟨rfl, rfl, BY.out⟩
  | ok k =>
   rw [hn2] at HN;have Am := Lib.hid hn2;obtain ⟨x0, x1⟩ := iS (l := ay L a r) RB.out (by omega);have TV := Lib.hid (fun (W : World) => Be s (ay L a r) W FU.out RB.out (by omega) (by omega));generalize hX : dg (ay L a r) = X at *;have tB := Lib.hid hX;clear hX hn2;go_wp2_with fail;refine HN.out.mono ?_;rintro e w5 ⟨rfl, eV, cr⟩;have kn := Lib.hid eV;have dM := Lib.hid (Mc.out.trans cr);clear eV cr;go_wp2_with fail;refine (TV.out _).mono ?_;rintro e w6 ⟨rfl, ck⟩;have qh := Lib.hid (kn.out.below ck);have fu := Lib.hid (dM.out.trans (aF.below C ck));clear ck;by_cases vD : 1114111 < X
   ·have HF := Lib.hid (fun (W : World) => bW 3 i W);go_wp2_with fail;refine (HF.out _).mono ?_;rintro e w7 ⟨rfl, rfl⟩;go_wp2_with fail;rw [show R = _ from iM.out.symm.trans (Fo FW.out mR.out OA.out Am.out (by rw [tB.out]; exact vD))];exact ⟨rfl, rfl, fu.out⟩
   have UI : IntKind.i32.wrap X = X := IntWalk.i32_in _ (by omega);go_wp2_with fail;go_ret;rw [show R = _ from iM.out.symm.trans (IF FW.out mR.out OA.out Am.out (by rw [tB.out]; omega)), tB.out];exact ⟨rfl, qh.out, fu.out⟩
end Go.Proofs.YthnhbcohfoodlaaGreatDoor
