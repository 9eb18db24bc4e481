/- Cursor + CurFail + CurSkip + CurPlain + CurHex + CurChar + Caught -/
import Derived.Test.YthnhbcohfoodlaaGreatDoorZw30
import Derived.Test.YthnhbcohfoodlaaGreatDoorZw31
import Derived.Test.YthnhbcohfoodlaaGreatDoorZw7
import Derived.Defers
import Derived.Recover
set_option maxHeartbeats 3200000
set_option maxRecDepth 100000
namespace Go.Proofs.YthnhbcohfoodlaaGreatDoor
open Go.RowKit
def mc (w : World) (g : Nat) (cs : Array Value) : Prop := ∃ t, au w g t cs
section
variable {w w' : World} {g : Nat} {cs : Array Value}
theorem mc.lt (h : mc w g cs) : g < w.heap.size := let ⟨_, hb⟩ := h; hb.lt
theorem mc.cell (h : mc w g cs) (i : Nat) : w.cell? ⟨g, i, none⟩ = cs[i]? := let ⟨_, hb⟩ := h; hb.cell i
theorem mc.frozen (h : mc w g cs) (i : Nat) : w.frozen? ⟨g, i, none⟩ = false := let ⟨_, hb⟩ := h; hb.frozen i
theorem mc.drewN (h : mc w g cs) (n : Nat) : mc (w.drewN n) g cs := h
theorem mc.put (h : mc w g cs) (i : Nat) (u : Value) : mc (w.setCell ⟨g, i, none⟩ u) g (cs.setIfInBounds i u) := let ⟨t, hb⟩ := h; ⟨t, hb.put i u⟩
theorem mc.below {B : Nat} (h : mc w g cs) (hb : Below B w w') (hg : g < B) : mc w' g cs := let ⟨t, hc⟩ := h; ⟨t, hc.below hb hg⟩
theorem mc.same (h : mc w g cs) (he : w'.heap[g]? = w.heap[g]?) : mc w' g cs := let ⟨t, hc⟩ := h; ⟨t, he.trans hc⟩
end
structure av (w : World) (C : Nat) (A : Option Addr) (n c : Nat) (L : List Int) (i : Nat) : Prop where
  ey : mc w C #[.slice A n c, .int .i64 i]
  row : fl w (fun b => b ≠ C) 1 A n (runeCells L)
  size : n ≤ 4611686018427387904
  le : i ≤ n
  cap : n ≤ c
theorem av.len {w : World} {C : Nat} {A : Option Addr} {n c : Nat} {L : List Int} {i : Nat} (h : av w C A n c L i) : L.length = n := by
 have := h.row.1; rw [runeCells_length] at this; omega
theorem av.drewN {w : World} {C : Nat} {A : Option Addr} {n c : Nat} {L : List Int} {i : Nat} (h : av w C A n c L i) (k : Nat) : av (w.drewN k) C A n c L i :=
  ⟨h.ey.drewN k, h.row.keep (ag.any (below_drewN (Below.refl _ _) k)), h.size, h.le, h.cap⟩
theorem Bu (w : World) (C : Nat) (A : Option Addr) (n c : Nat) (L : List Int) (i k : Nat) (h : av w C A n c L i) (hk : k ≤ 1000) :
    Calls Tryz.prog 77 #[.pointer (some ⟨C, 0, none⟩), .int .i64 k] w fun e w' => e = .returned (.int .i32 (pk L (i + k))) ∧ ∃ m, w' = w.drewN m := by
 have c0 := h.ey.cell 0;have c1 := h.ey.cell 1;have hl := h.len;have hs := h.size;have hi := h.le;have hw1 : IntKind.i64.wrap ((i : Int) + k) = ((i + k : Nat) : Int) := (by rw [wrap_small _ (by omega) (by omega)]; omega);by_cases hlt : i + k < n
 ·obtain ⟨x, hx⟩ : ∃ x, L[i + k]? = some x := ⟨_, List.getElem?_eq_getElem (by omega)⟩;rw [Aj hx];obtain ⟨b, o, rfl, _, _, hc⟩ := h.row.2 (by omega);have d0 : w.cell? ⟨b, o + (i + k), none⟩ = some (.int .i32 x) := hc _ _ (by simp [runeCells, hx]);have hg : decide ((n : Int) ≤ ((i + k : Nat) : Int)) = false := decide_eq_false (by omega);have hk0 : (0 : Int) ≤ ((i + k : Nat) : Int) := (by omega);have fW : ((i + k : Nat) : Int) < (n : Int) := (by omega);clear hc h hx hl;go_enter Tryz.func77, Tryz.ntmps77;go_wp2_with fail;go_quiet (fail);go_wp2_with fail;go_quiet (fail);go_wp2_with fail;go_ret;exact ⟨rfl, _, by rw [World.drewN_drewN]⟩
 rw [mM (by omega)];have hg : decide ((n : Int) ≤ ((i + k : Nat) : Int)) = true := decide_eq_true (by omega);clear h hl;go_enter Tryz.func77, Tryz.ntmps77;go_wp2_with fail;go_quiet (fail);go_wp2_with fail;go_ret;exact ⟨rfl, _, rfl⟩
theorem lg (w : World) (C : Nat) (A : Option Addr) (n c : Nat) (L : List Int) (i : Nat) (h : av w C A n c L i) :
    Calls Tryz.prog 57 #[.pointer (some ⟨C, 0, none⟩)] w fun e w' => e = .returned (.int .i32 (pk L i)) ∧ ∃ m, w' = w.drewN m := by
 have HL := Lib.hid (show Calls Tryz.prog 77 #[.pointer (some ⟨C, 0, none⟩), .int .i64 0] w fun e w' => e = .returned (.int .i32 (pk L i)) ∧ ∃ m, w' = w.drewN m from Bu w C A n c L i 0 h (Nat.zero_le _));clear h;go_enter Tryz.func57, Tryz.ntmps57;go_wp2_with fail;refine HL.out.mono ?_;rintro e w1 ⟨rfl, hm⟩;go_wp2_with fail;go_ret;exact ⟨rfl, hm⟩
theorem bX (e p : Int) (w : World) :
    Calls Tryz.prog 37 #[.int .i64 e, .int .i64 p] w fun en w' => en = .panicked [{ v := .iface 126 (.agg #[.int .i64 e, .int .i64 p]), recovered := false }] ∧ w' = w := by
 go_enter Tryz.func37, Tryz.ntmps37;go_wp2_with fail;exact ⟨rfl, rfl, rfl⟩
theorem rA (r : Int) (w : World) :
    Calls Tryz.prog 75 #[.int .i32 r] w fun e w' => e = .returned (.bool (gC r)) ∧ w' = w := by
 go_enter Tryz.func75, Tryz.ntmps75;go_wp2;(all_goals go_ret);(all_goals refine ⟨e9 ?_, rfl⟩);(all_goals (rw [Bool.eq_iff_iff]; simp [gC]; try omega))
def aZ (e p : Int) : Ending := .panicked [{ v := .iface 126 (.agg #[.int .i64 e, .int .i64 p]), recovered := false }]
theorem av.move {w : World} {C : Nat} {A : Option Addr} {n c : Nat} {L : List Int} {i j : Nat} (h : av w C A n c L i) (hj : j ≤ n) : av (w.setCell ⟨C, 1, none⟩ (.int .i64 j)) C A n c L j :=
  ⟨h.ey.put 1 _, h.row.keep (ag.setCell (p := ⟨C, 1, none⟩) _ (fun _ hb => hb) (fun _ h _ => h)), h.size, hj, h.cap⟩
theorem fc (w : World) (C : Nat) (A : Option Addr) (n c : Nat) (L : List Int) (i : Nat) (r : Int) (h : av w C A n c L i) (hr : r ≠ -1) :
    Calls Tryz.prog 59 #[.pointer (some ⟨C, 0, none⟩), .int .i32 r] w fun e w' =>
      match aW L i r with
      | .ok j => e = .returned (.tuple #[]) ∧ av w' C A n c L j ∧ bK w C w'
      | .error (x, p) => e = aZ x p ∧ bK w C w' := by
 have fP := Lib.hid (lg w C A n c L i h);have HC := Lib.hid h;have hs := h.size;have hi := h.le;have hl := h.len;have hw1 : IntKind.i64.wrap ((i : Int) + 1) = ((i + 1 : Nat) : Int) := (by rw [wrap_small _ (by omega) (by omega)]; omega);clear h;unfold aW;by_cases he : pk L i = r
 ·have hlt : i < L.length := bA (by omega);rw [if_pos he];have hg : decide (pk L i = r) = true := decide_eq_true he;go_enter Tryz.func59, Tryz.ntmps59;go_wp2_with fail;refine fP.out.mono ?_;rintro e w1 ⟨rfl, m, rfl⟩;have jo := Lib.hid (HC.out.drewN m);have c0 := jo.out.ey.cell 0;have c1 := jo.out.ey.cell 1;have f1 := jo.out.ey.frozen 1;go_wp2_with fail;have hm := jo.out.move (j := i + 1) (by omega);rw [show (((i + 1 : Nat)) : Int) = (i : Int) + 1 by omega] at hm;go_end0;exact ⟨rfl, hm, (bK.drewN w C m).trans (bK.set _ C 1 _)⟩
 rw [if_neg he];go_enter Tryz.func59, Tryz.ntmps59;go_wp2_with fail;refine fP.out.mono ?_;rintro e w1 ⟨rfl, m, rfl⟩;have jo := Lib.hid (HC.out.drewN m);have c0 := jo.out.ey.cell 0;have c1 := jo.out.ey.cell 1;go_wp2_with fail;refine (bX 2 i _).mono ?_;rintro e w2 ⟨rfl, rfl⟩;go_wp2_with fail;exact ⟨rfl, rfl, bK.drewN w C m⟩
theorem iq (w : World) (C : Nat) (A : Option Addr) (n c : Nat) (L : List Int) (i : Nat) (h : av w C A n c L i) :
    Calls Tryz.prog 38 #[.pointer (some ⟨C, 0, none⟩)] w fun e w' => e = .returned (.tuple #[]) ∧ av w' C A n c L (aN L i) ∧ bK w C w' := by
 have HC := Lib.hid h;have hs := h.size;have hl := h.len;clear h;go_enter Tryz.func38, Tryz.ntmps38;go_wp2_with fail;go_loopw [2] (fun _ wr => ∃ j, j ≤ n ∧ aN L i = aN L j ∧ av wr C A n c L j ∧ bK w C wr) (fun _ wr => n - (match wr.cell? ⟨C, 1, none⟩ with | some (.int _ j) => j.toNat | _ => 0));(case atStart => exact ⟨i, HC.out.le, rfl, HC.out, bK.refl _ _⟩);obtain ⟨j, hj, Xz, hc, hb⟩ := hrel;have HJ := Lib.hid hc;have HB := Lib.hid hb;have HS := Lib.hid Xz;have fP := Lib.hid (lg wr C A n c L j hc);have hm0 := hc.ey.cell 1;have sn := Lib.hid hm0;have hw1 : IntKind.i64.wrap ((j : Int) + 1) = ((j + 1 : Nat) : Int) := (by rw [wrap_small _ (by omega) (by omega)]; omega);clear hc hb Xz hm0;go_wp2_with fail;refine fP.out.mono ?_;rintro e w1 ⟨rfl, m, rfl⟩;have jo := Lib.hid (HJ.out.drewN m);go_wp2_with fail;refine (rA _ _).mono ?_;rintro e w2 ⟨rfl, rfl⟩;by_cases cR : gC (pk L j) = true
 ·rw [cR];have hlt : j < L.length := bA (fun e => by rw [e] at cR; exact absurd cR (by decide));have c0 := jo.out.ey.cell 0;have c1 := jo.out.ey.cell 1;have f1 := jo.out.ey.frozen 1;have NQ := jo.out.move (j := j + 1) (by omega);rw [show (((j + 1 : Nat)) : Int) = (j : Int) + 1 by omega] at NQ;have yQ := Lib.hid NQ;clear NQ;go_wp2_with fail;refine ⟨⟨j + 1, by omega, HS.out.trans (cZ hlt cR), yQ.out, (HB.out.trans (bK.drewN wr C m)).trans (bK.set _ C 1 _)⟩, ?_⟩;have e1 : ((wr.drewN m).setCell ⟨C, 1, none⟩ (.int .i64 ((j : Int) + 1))).cell? ⟨C, 1, none⟩ = some (.int .i64 ((j + 1 : Nat) : Int)) := yQ.out.ey.cell 1;have e2 : wr.cell? ⟨C, 1, none⟩ = some (.int .i64 (j : Int)) := sn.out;rw [e1, e2];simp only [Int.toNat_natCast];omega
 rw [Bool.not_eq_true] at cR;rw [cR];go_wp2_with fail;go_end0;refine ⟨rfl, ?_, HB.out.trans (bK.drewN wr C m)⟩;rw [HS.out, show aN L j = j from cx (fun _ => cR)];exact jo.out
def Cy (r : Int) : Prop := r = -1 ∨ Utf8.valid r = true
def qv : ByteArray := ⟨#[91, 93, 38, 45, 94, 92, 58, 36, 40, 41, 123, 125, 60, 62, 124, 59, 35, 39, 34, 61, 44]⟩
theorem zG (r : Int) : (qv.data.toList.any fun b => decide ((b.toNat : Int) = r)) = lN.contains r := by
 rw [Bool.eq_iff_iff];simp [qv, lN];omega
theorem nM (r : Int) (w : World) (hr : Cy r) :
    Calls Tryz.prog 128 #[.int .i32 r] w fun e w' => e = .returned (.bool (bT r)) ∧ Below w.heap.size w w' := by
 have HS := Lib.hid (show Calls Tryz.prog 154 #[.string qv, .int .i32 r] w fun e w' => e = .returned (.bool (lN.contains r)) ∧ Below w.heap.size w w' by
  have := oc qv r w (by decide) (by decide) (by decide) hr;rw [zG] at this;exact this)
 clear hr;unfold bT;by_cases h0 : 0 ≤ r
 ·have hd : decide (0 ≤ r) = true := decide_eq_true h0;rw [hd];cases hb : gC r
  ·go_enter Tryz.func128, Tryz.ntmps128;go_wp2_with fail;refine (rA _ _).mono ?_;rintro e w1 ⟨rfl, hw⟩;rw [hw, hb];go_wp2_with fail;refine HS.out.mono ?_;rintro e w2 ⟨rfl, bn⟩;go_wp2_with fail;go_ret;exact ⟨by simp, bn⟩
  go_enter Tryz.func128, Tryz.ntmps128;go_wp2_with fail;refine (rA _ _).mono ?_;rintro e w1 ⟨rfl, hw⟩;rw [hw, hb];go_wp2_with fail;go_ret;exact ⟨by simp, Below.refl _ _⟩
 have hd : decide (0 ≤ r) = false := decide_eq_false h0;rw [hd];go_enter Tryz.func128, Tryz.ntmps128;go_wp2_with fail;go_ret;exact ⟨by simp, Below.refl _ _⟩
def gi (L : List Int) : Prop := ∀ x ∈ L, Utf8.valid x = true
theorem gi.ok {L : List Int} (h : gi L) : cA L := fun x hx => by
 have := h x hx;simp [Utf8.valid] at this;omega
theorem gi.pk {L : List Int} (h : gi L) (i : Nat) : Cy (pk L i) := by
 unfold Go.Proofs.YthnhbcohfoodlaaGreatDoor.pk;cases hi : L[i]? with
 | none => exact .inl rfl
 | some x => exact .inr (h x (List.mem_of_getElem? hi))
theorem av.at {w : World} {C : Nat} {A : Option Addr} {n c : Nat} {L : List Int} {i : Nat} (h : av w C A n c L i) (h0 : 0 < n) :
    ∃ b off, A = some ⟨b, off, none⟩ ∧ b < w.heap.size ∧ ∀ j x, L[j]? = some x → w.cell? ⟨b, off + j, none⟩ = some (.int .i32 x) := by
 obtain ⟨b, off, e, _, hb, hc⟩ := h.row.2 h0;exact ⟨b, off, e, hb, fun j x hx => hc j _ (by rw [lW, hx]; rfl)⟩
theorem vN {w : World} {C : Nat} {b off n c : Nat} {L : List Int} {k : Nat} (h : av w C (some ⟨b, off, none⟩) n c L k) {i j : Nat} (hij : i ≤ j) (hj : j ≤ n) :
    (convert 61 9 (.slice (if c = i then some ⟨b, off, none⟩ else some ⟨b, off + i, none⟩) (j - i) (c - i))).run Tryz.prog w = .ok (.string (runesBytes (aO L i j))) w := by
 have hlen := h.len;have hcap := h.cap;by_cases hn : 0 < n
 ·obtain ⟨b', off', e, _, hc⟩ := h.at hn;cases e;have key : ∀ (o : Nat), o = off + i ∨ j - i = 0 → (convert 61 9 (.slice (some ⟨b, o, none⟩) (j - i) (c - i))).run Tryz.prog w = .ok (.string (runesBytes (aO L i j))) w := by
   intro o ho;rcases ho with rfl | ho
   ·have := run_convert_runes (P := Tryz.prog) w 61 9 21 ⟨b, off + i, none⟩ (j - i) (c - i) (aO L i j) (by unfold aO; rw [List.length_take, List.length_drop]; omega) Tryz.underlying61 Tryz.underlying21 Tryz.underlying9 (fun q hq => by
     rw [jW, Nat.add_assoc];unfold aO at hq ⊢;rw [List.length_take, List.length_drop] at hq;refine hc (i + q) _ ?_;rw [List.getD_eq_getElem?_getD, List.getElem?_take_of_lt (by omega), List.getElem?_drop];rw [List.getElem?_eq_getElem (by omega)];rfl)
    rw [show (aO L i j).take (j - i) = aO L i j from List.take_of_length_le (by unfold aO; rw [List.length_take]; omega)] at this;exact this
   have := run_convert_runes (P := Tryz.prog) w 61 9 21 ⟨b, o, none⟩ (j - i) (c - i) [] (by rw [ho]; simp) Tryz.underlying61 Tryz.underlying21 Tryz.underlying9 (fun q hq => by simp at hq);rw [show ([] : List Int).take (j - i) = aO L i j by unfold aO; rw [ho]; simp] at this;exact this
  split;exact key _ (.inr (by omega));exact key _ (.inl rfl)
 have := run_convert_runes (P := Tryz.prog) w 61 9 21 (if c = i then ⟨b, off, none⟩ else ⟨b, off + i, none⟩) (j - i) (c - i) [] (by rw [show j - i = 0 by omega]; simp) Tryz.underlying61 Tryz.underlying21 Tryz.underlying9 (fun q hq => by simp at hq);have e : (if c = i then some (⟨b, off, none⟩ : Addr) else some ⟨b, off + i, none⟩) = some (if c = i then (⟨b, off, none⟩ : Addr) else ⟨b, off + i, none⟩) := (by split <;> rfl);rw [show ([] : List Int).take (j - i) = aO L i j by unfold aO; rw [show j - i = 0 by omega]; simp] at this;rw [e];exact this
def zM (w : World) (C : Nat) (A : Option Addr) (n c : Nat) (L : List Int) (r : jz Int) (e : Ending) (w' : World) : Prop :=
  match r with
  | .ok (x, j) => e = .returned (.int .i32 x) ∧ av w' C A n c L j ∧ bK w C w'
  | .error (x, p) => e = aZ x p ∧ bK w C w'
def Ks : ByteArray := ⟨#[48, 49, 50, 51, 52, 53, 54, 55, 56, 57, 97, 98, 99, 100, 101, 102, 65, 66, 67, 68, 69, 70]⟩
theorem La (r : Int) : (Ks.data.toList.any fun b => decide ((b.toNat : Int) = r)) = ee r := by
 rw [Bool.eq_iff_iff];simp [Ks, ee];omega
theorem zb (r : Int) (w : World) (hr : Cy r) :
    Calls Tryz.prog 154 #[.string Ks, .int .i32 r] w fun e w' => e = .returned (.bool (ee r)) ∧ Below w.heap.size w w' := by
 have := oc Ks r w (by decide) (by decide) (by decide) hr;rw [La] at this;exact this
theorem av.below {w w' : World} {C : Nat} {A : Option Addr} {n c : Nat} {L : List Int} {i : Nat} (h : av w C A n c L i) (hb : Below w.heap.size w w') : av w' C A n c L i :=
  ⟨h.ey.below hb h.ey.lt, h.row.keep (ag.any hb), h.size, h.le, h.cap⟩
theorem Lv {L : List Int} {i : Nat} {e : Int × Nat} (h : aW L (i + 1) 123 = .error e) : jn L i = .error e := by unfold jn; rw [h]
theorem Ei {L : List Int} {i a r : Nat} (h : aW L (i + 1) 123 = .ok a) (hr : r = aA ee L a) (hb : r - a < 1 ∨ 6 < r - a) : jn L i = .error (2, a) := by
 subst hr; unfold jn; rw [h]; simp only; rw [if_pos hb]
theorem Ls {L : List Int} {i a r : Nat} {e : Int × Nat} (h : aW L (i + 1) 123 = .ok a) (hr : r = aA ee L a) (hb : ¬ (r - a < 1 ∨ 6 < r - a)) (h2 : aW L r 125 = .error e) : jn L i = .error e := by
 subst hr; unfold jn; rw [h]; simp only; rw [if_neg hb, h2]
theorem Lm {L : List Int} {i a r k : Nat} (h : aW L (i + 1) 123 = .ok a) (hr : r = aA ee L a) (hb : ¬ (r - a < 1 ∨ 6 < r - a)) (h2 : aW L r 125 = .ok k) (h3 : 1114111 < cF (aO L a r)) : jn L i = .error (3, i) := by
 subst hr; unfold jn; rw [h]; simp only; rw [if_neg hb, h2]; simp only; rw [if_pos h3]
theorem NR {L : List Int} {i a r k : Nat} (h : aW L (i + 1) 123 = .ok a) (hr : r = aA ee L a) (hb : ¬ (r - a < 1 ∨ 6 < r - a)) (h2 : aW L r 125 = .ok k) (h3 : ¬ 1114111 < cF (aO L a r)) : jn L i = .ok (cF (aO L a r), k) := by
 subst hr; unfold jn; rw [h]; simp only; rw [if_neg hb, h2]; simp only; rw [if_neg h3]
def Pc (w : World) (C : Nat) (A : Option Addr) (n c : Nat) (L : List Int) (a r : Nat) (wr : World) : Prop :=
  ∃ j, a ≤ j ∧ j ≤ n ∧ r = aA ee L j ∧ av wr C A n c L j ∧ bK w C wr
theorem Ly (w : World) (C : Nat) (A : Option Addr) (n c : Nat) (L : List Int) (i : Nat) (h : av w C A n c L i) (hL : gi L) (hi : i < n) :
    Calls Tryz.prog 162 #[.pointer (some ⟨C, 0, none⟩)] w (zM w C A n c L (jn L i)) := by
 have hs := h.size;have hlen := h.len;obtain ⟨b, off, rfl, _, _⟩ := h.at (by omega);have HL := Lib.hid hL;have c0 := h.ey.cell 0;have c1 := h.ey.cell 1;have f1 := h.ey.frozen 1;have hw1 : IntKind.i64.wrap ((i : Int) + 1) = ((i + 1 : Nat) : Int) := (by rw [wrap_small _ (by omega) (by omega)]; omega);have hm := h.move (j := i + 1) (by omega);have MT := bK.set w C 1 (.int .i64 ((i + 1 : Nat) : Int));rw [show (((i + 1 : Nat)) : Int) = (i : Int) + 1 by omega] at hm MT;have HM := Lib.hid hm;have cy := Lib.hid MT;clear hL hm h MT;obtain ⟨R, hR⟩ : ∃ R, jn L i = R := ⟨_, rfl⟩;rw [hR];have gG := Lib.hid hR;clear hR;cases hn : aW L (i + 1) 123 with
 | error e0 =>
  obtain ⟨x, p⟩ := e0;have HN := Lib.hid (fc _ C _ n c L (i + 1) 123 HM.out (by decide));rw [hn] at HN;go_enter Tryz.func162, Tryz.ntmps162;go_wp2_with fail;refine HN.out.mono ?_;rintro e w1 ⟨he, hb⟩;unfold aZ at he;subst he;have SN := Lib.hid (cy.out.trans hb);clear hb HN;go_wp2_with fail;rw [show R = _ from gG.out.symm.trans (Lv hn)];exact ⟨rfl, rfl, SN.out⟩
 | ok a =>
  have MM := Lib.hid hn;obtain ⟨rfl, hpk⟩ := fF hn;have HN := Lib.hid (fc _ C _ n c L (i + 1) 123 HM.out (by decide));rw [hn] at HN;have hi1 : i + 1 < n := (by rw [← hlen]; exact bA (by rw [hpk]; decide));clear hn;generalize ha : i + 1 + 1 = a at *;have Mj := Lib.hid (oZ ee L a);generalize hr : aA ee L a = r at *;have B4 := Lib.hid hr.symm;clear hr;go_enter Tryz.func162, Tryz.ntmps162;go_wp2_with fail;refine HN.out.mono ?_;rintro e w1 ⟨rfl, hc, hb⟩;have HC := Lib.hid hc;have cE := Lib.hid (cy.out.trans hb);have g0 := hc.ey.cell 0;have g1 := hc.ey.cell 1;clear hb hc HN cy HM;go_wp2_with fail;go_loopw [25] (fun _ wr => Pc w C (some ⟨b, off, none⟩) n c L a r wr) (fun _ wr => n - (match wr.cell? ⟨C, 1, none⟩ with | some (.int _ j) => j.toNat | _ => 0));(case atStart => exact ⟨a, Nat.le_refl _, HC.out.le, B4.out, HC.out, cE.out⟩);obtain ⟨j, haj, hj, hrun, rS, Ar⟩ := hrel;have HJ := Lib.hid rS;have HB := Lib.hid Ar;have HR := Lib.hid hrun;have fP := Lib.hid (fun (W : World) (h : av W C (some ⟨b, off, none⟩) n c L j) => lg W C (some ⟨b, off, none⟩) n c L j h);have sn := Lib.hid (rS.ey.cell 1);have hok := HL.out.pk j;have GK := Lib.hid (fun (W : World) => zb (pk L j) W hok);clear rS Ar hrun;by_cases Ce : ee (pk L j) = true
  ·rw [Ce] at GK;have hlt : j < L.length := bA (fun e => by rw [e] at Ce; exact absurd Ce (by decide));have h0 : 0 ≤ pk L j := (jS (l := [pk L j]) (by simpa using Ce) _ (by simp)).1;have hg : decide (0 ≤ pk L j) = true := decide_eq_true h0;have LB : IntKind.i64.wrap ((j : Int) + 1) = ((j + 1 : Nat) : Int) := (by rw [wrap_small _ (by omega) (by omega)]; omega);go_wp2_with fail;refine (fP.out _ HJ.out).mono ?_;rintro e w2 ⟨rfl, m, rfl⟩;go_wp2_with fail;refine (GK.out _).mono ?_;rintro e w3 ⟨rfl, aJ⟩;have jy := Lib.hid ((HJ.out.drewN m).below aJ);have dQ := Lib.hid ((HB.out.trans (bK.drewN wr C m)).trans (bK.below C aJ));clear aJ;go_wp2_with fail;refine (fP.out _ jy.out).mono ?_;rintro e w4 ⟨rfl, m2, rfl⟩;have jo := Lib.hid (jy.out.drewN m2);have d0 := jo.out.ey.cell 0;have d1 := jo.out.ey.cell 1;have f2 := jo.out.ey.frozen 1;have NQ := jo.out.move (j := j + 1) (by omega);rw [show (((j + 1 : Nat)) : Int) = (j : Int) + 1 by omega] at NQ;have yQ := Lib.hid NQ;clear NQ;go_wp2_with fail;refine ⟨⟨j + 1, by omega, by omega, HR.out.trans (cZ hlt Ce), yQ.out, (dQ.out.trans (bK.drewN w3 C m2)).trans (bK.set _ C 1 _)⟩, ?_⟩;have e1 : ((w3.drewN m2).setCell ⟨C, 1, none⟩ (.int .i64 ((j : Int) + 1))).cell? ⟨C, 1, none⟩ = some (.int .i64 ((j + 1 : Nat) : Int)) := yQ.out.ey.cell 1;have e2 : wr.cell? ⟨C, 1, none⟩ = some (.int .i64 (j : Int)) := sn.out;rw [e1, e2];simp only [Int.toNat_natCast];omega
  rw [Bool.not_eq_true] at Ce;rw [Ce] at GK;obtain rfl : r = j := HR.out.trans (cx (fun _ => Ce));clear HR;go_wp2_with fail;refine (fP.out _ HJ.out).mono ?_;rintro e w2 ⟨rfl, m, rfl⟩;go_wp2_with fail;refine (GK.out _).mono ?_;rintro e w3 ⟨rfl, aJ⟩;have jy := Lib.hid ((HJ.out.drewN m).below aJ);have dQ := Lib.hid ((HB.out.trans (bK.drewN wr C m)).trans (bK.below C aJ));clear aJ;have d0 := jy.out.ey.cell 0;have d1 := jy.out.ey.cell 1;have tD := fun q => vN (jy.out.drewN q) haj hj;have fW : (a : Int) ≤ (r : Int) := (by omega);have hk2 : (r : Int) ≤ (c : Int) := (by have := jy.out.cap; omega);have qI : (0 : Int) ≤ (a : Int) := (by omega);have hds : ∀ d ∈ aO L a r, ee d = true := (by rw [Mj.out]; exact oy _);have Xf := Lib.hid hds;have O0 : (aO L a r).length = r - a := (by unfold aO; rw [List.length_take, List.length_drop]; omega);have hsz : (runesBytes (aO L a r)).size = r - a := (by rw [td (jS hds), O0]);have Oa := Lib.hid (dY (jS hds));generalize runesBytes (aO L a r) = s at *;clear hds;go_wp2_with fail;go_quiet (fail);have Ym := Lib.hid (jy.out.drewN nq);have RR := Lib.hid (dQ.out.trans (bK.drewN w3 C nq));generalize w3.drewN nq = wq at Ym RR ⊢;generalize (if c = a then some ({ block := b, off := off } : Addr) else some { block := b, off := off + a }) = Z;clear tD d0 d1 jy dQ HJ HB sn fW hk2 qI;rcases (show r - a < 1 ∨ 6 < r - a ∨ (1 ≤ r - a ∧ r - a ≤ 6) by omega) with wD | wD | ⟨zj, Oh⟩
  ·have hz : s.size = 0 := (by omega);have HF := Lib.hid (fun (W : World) => bX 2 a W);go_wp2_with fail;refine (HF.out _).mono ?_;rintro e w5 ⟨rfl, rfl⟩;go_wp2_with fail;rw [show R = _ from gG.out.symm.trans (Ei MM.out B4.out (.inl wD))];exact ⟨rfl, rfl, RR.out⟩
  ·have HF := Lib.hid (fun (W : World) => bX 2 a W);have hq1 : decide ((s.size : Int) < 1) = false := decide_eq_false (by omega);have xE : decide ((6 : Int) < (s.size : Int)) = true := decide_eq_true (by omega);go_wp2_with fail;refine (HF.out _).mono ?_;rintro e w5 ⟨rfl, rfl⟩;go_wp2_with fail;rw [show R = _ from gG.out.symm.trans (Ei MM.out B4.out (.inr wD))];exact ⟨rfl, rfl, RR.out⟩
  have hq1 : decide ((s.size : Int) < 1) = false := decide_eq_false (by omega);have xE : decide ((6 : Int) < (s.size : Int)) = false := decide_eq_false (by omega);have HN := Lib.hid (fc wq C _ n c L r 125 Ym.out (by decide));have Vr := Lib.hid (show ¬ (r - a < 1 ∨ 6 < r - a) by omega);cases hn2 : aW L r 125 with
  | error e0 =>
   obtain ⟨x, p⟩ := e0;rw [hn2] at HN;go_wp2_with fail;refine HN.out.mono ?_;rintro e w5 ⟨he, hb⟩;unfold aZ at he;subst he;have SN := Lib.hid (RR.out.trans hb);clear hb HN;go_wp2_with fail;rw [show R = _ from gG.out.symm.trans (Ls MM.out B4.out Vr.out hn2)];exact ⟨rfl, rfl, SN.out⟩
  | ok k =>
   rw [hn2] at HN;have nL := Lib.hid hn2;obtain ⟨x0, x1⟩ := lS (l := aO L a r) Xf.out (by omega);have Yw := Lib.hid (fun (W : World) => FD s (aO L a r) W Oa.out Xf.out (by omega) (by omega));generalize hX : cF (aO L a r) = X at *;have Kx := Lib.hid hX;clear hX hn2;go_wp2_with fail;refine HN.out.mono ?_;rintro e w5 ⟨rfl, kP, eo⟩;have tq := Lib.hid kP;have fR := Lib.hid (RR.out.trans eo);clear kP eo;go_wp2_with fail;refine (Yw.out _).mono ?_;rintro e w6 ⟨rfl, fE⟩;have Gt := Lib.hid (tq.out.below fE);have jM := Lib.hid (fR.out.trans (bK.below C fE));clear fE;by_cases Vl : 1114111 < X
   ·have HF := Lib.hid (fun (W : World) => bX 3 i W);go_wp2_with fail;refine (HF.out _).mono ?_;rintro e w7 ⟨rfl, rfl⟩;go_wp2_with fail;rw [show R = _ from gG.out.symm.trans (Lm MM.out B4.out Vr.out nL.out (by rw [Kx.out]; exact Vl))];exact ⟨rfl, rfl, jM.out⟩
   have Ek : IntKind.i32.wrap X = X := IntWalk.i32_in _ (by omega);go_wp2_with fail;go_ret;rw [show R = _ from gG.out.symm.trans (NR MM.out B4.out Vr.out nL.out (by rw [Kx.out]; omega)), Kx.out];exact ⟨rfl, Gt.out, jM.out⟩
theorem Ah {L : List Int} {i : Nat} (h : bT (pk L i) = true) : cC L i = .ok (pk L i, i + 1) := by unfold cC; rw [if_pos h]
theorem Jd {L : List Int} {i : Nat} (h : bT (pk L i) = false) (h2 : pk L i ≠ 92) : cC L i = .error (2, i) := by unfold cC; rw [if_neg (by rw [h]; decide), if_pos h2]
theorem GC {L : List Int} {i : Nat} (h2 : pk L i = 92) : cC L i = if pk L (i + 1) = 110 then .ok (10, i + 2)
  else if pk L (i + 1) = 116 then .ok (9, i + 2)
  else if pk L (i + 1) = 117 then jn L (i + 1)
  else if pk L (i + 1) < 0 ∨ C9 (pk L (i + 1)) = true then .error (2, i + 1)
  else .ok (pk L (i + 1), i + 2) := by
 unfold cC;rw [if_neg (by rw [h2]; decide), if_neg (by rw [h2]; decide)]
theorem Aw (r : Int) : C9 r = true ↔ (48 ≤ r ∧ r ≤ 57) ∨ (97 ≤ r ∧ r ≤ 122) ∨ (65 ≤ r ∧ r ≤ 90) := by
 unfold C9;simp only [Bool.or_eq_true, Bool.and_eq_true, decide_eq_true_eq]
theorem av.step {w : World} {C : Nat} {A : Option Addr} {n c : Nat} {L : List Int} {i : Nat} (h : av w C A n c L i) (hi : i < n) :
    w.cell? ⟨C, 1, none⟩ = some (.int .i64 i) ∧ w.frozen? ⟨C, 1, none⟩ = false ∧ av (w.setCell ⟨C, 1, none⟩ (.int .i64 ((i : Int) + 1))) C A n c L (i + 1) ∧ bK w C (w.setCell ⟨C, 1, none⟩ (.int .i64 ((i : Int) + 1))) := by
 have hm := h.move (j := i + 1) hi;rw [show (((i + 1 : Nat)) : Int) = (i : Int) + 1 by omega] at hm;exact ⟨h.ey.cell 1, h.ey.frozen 1, hm, bK.set w C 1 _⟩
theorem AD (w : World) (C : Nat) (A : Option Addr) (n c : Nat) (L : List Int) (i : Nat) (h : av w C A n c L i) (hL : gi L) :
    Calls Tryz.prog 130 #[.pointer (some ⟨C, 0, none⟩)] w (zM w C A n c L (cC L i)) := by
 have hs := h.size;have hlen := h.len;have HL := Lib.hid hL;have HC := Lib.hid h;have fP := Lib.hid (fun (W : World) (k : Nat) (h : av W C A n c L k) => lg W C A n c L k h);have Eg := Lib.hid (fun (W : World) (k : Nat) => nM (pk L k) W (hL.pk k));have hw1 : IntKind.i64.wrap ((i : Int) + 1) = (i : Int) + 1 := wrap_small _ (by have := h.le; omega) (by have := h.le; omega);have hle := h.le;clear h hL;obtain ⟨R, hR⟩ : ∃ R, cC L i = R := ⟨_, rfl⟩;rw [hR];have gG := Lib.hid hR;clear hR;cases hp : bT (pk L i) with
 | true =>
  have hlt : i < L.length := bA (fun e => by rw [e] at hp; exact absurd hp (by decide));have nE := Lib.hid (show R = .ok (pk L i, i + 1) from gG.out.symm.trans (Ah hp));have Js := Lib.hid (fun (W : World) => show Calls Tryz.prog 128 #[.int .i32 (pk L i)] W fun e w' => e = .returned (.bool true) ∧ Below W.heap.size W w' by have := Eg.out W i; rwa [hp] at this);clear hp;go_enter Tryz.func130, Tryz.ntmps130;go_wp2_with fail;refine (fP.out _ _ HC.out).mono ?_;rintro e w1 ⟨rfl, m, rfl⟩;go_wp2_with fail;refine (Js.out _).mono ?_;rintro e w2 ⟨rfl, hb⟩;have qt := Lib.hid ((HC.out.drewN m).below hb);have cE := Lib.hid ((bK.drewN w C m).trans (bK.below C hb));clear hb;obtain ⟨d1, d2, d3, d4⟩ := qt.out.step (by omega);have o8 := Lib.hid d3;have dQ := Lib.hid (cE.out.trans d4);clear d3 d4;go_wp2_with fail;go_ret;rw [nE.out];exact ⟨rfl, o8.out, dQ.out⟩
 | false =>
  have Js := Lib.hid (fun (W : World) => show Calls Tryz.prog 128 #[.int .i32 (pk L i)] W fun e w' => e = .returned (.bool false) ∧ Below W.heap.size W w' by have := Eg.out W i; rwa [hp] at this);by_cases wj : pk L i = 92
  ·have hlt : i < L.length := bA (by omega);have LJ := Lib.hid (gG.out.symm.trans (GC wj));have qS := Lib.hid (fun (W : World) (h : av W C A n c L i) => show Calls Tryz.prog 57 #[.pointer (some ⟨C, 0, none⟩)] W fun e w' => e = .returned (.int .i32 92) ∧ ∃ m, w' = W.drewN m by have := fP.out W i h; rwa [wj] at this);rw [wj] at Js;clear hp wj;go_enter Tryz.func130, Tryz.ntmps130;go_wp2_with fail;refine (qS.out _ HC.out).mono ?_;rintro e w1 ⟨rfl, m, rfl⟩;go_wp2_with fail;refine (Js.out _).mono ?_;rintro e w2 ⟨rfl, hb⟩;have qt := Lib.hid ((HC.out.drewN m).below hb);have cE := Lib.hid ((bK.drewN w C m).trans (bK.below C hb));clear hb;obtain ⟨d1, d2, d3, d4⟩ := qt.out.step (by omega);have o8 := Lib.hid d3;have dQ := Lib.hid (cE.out.trans d4);clear d3 d4;go_wp2_with fail;refine (fP.out _ _ o8.out).mono ?_;rintro e w3 ⟨rfl, m3, CT⟩;have AY := Lib.hid (o8.out.drewN m3);have iW := Lib.hid (dQ.out.trans (bK.drewN _ C m3));rw [← CT] at AY iW;clear CT d1 d2;have LB : IntKind.i64.wrap ((i : Int) + 1 + 1) = (i : Int) + 1 + 1 := wrap_small _ (by omega) (by omega);have DT := uc HL.out.ok (i + 1);have GK := Lib.hid (fun (W : World) (hc : av W C A n c L (i + 1)) (hlt : i + 1 < n) => Ly W C A n c L (i + 1) hc HL.out hlt);have hcast : ((i + 1 : Nat) : Int) = (i : Int) + 1 := (by omega);generalize hr : pk L (i + 1) = r at *;by_cases h1 : r = 110
   ·subst h1;have AJ : i + 1 < n := (by rw [← hlen]; exact bA (by omega));have nE := Lib.hid (show R = .ok (10, i + 2) from LJ.out);obtain ⟨d1, d2, d3, d4⟩ := AY.out.step AJ;rw [hcast] at d1 d3 d4;have tq := Lib.hid d3;have fR := Lib.hid (iW.out.trans d4);clear d3 d4 LJ hr;go_wp2_with fail;go_ret;rw [nE.out];exact ⟨rfl, tq.out, fR.out⟩
   by_cases h2 : r = 116
   ·subst h2;have AJ : i + 1 < n := (by rw [← hlen]; exact bA (by omega));have nE := Lib.hid (show R = .ok (9, i + 2) from LJ.out);obtain ⟨d1, d2, d3, d4⟩ := AY.out.step AJ;rw [hcast] at d1 d3 d4;have tq := Lib.hid d3;have fR := Lib.hid (iW.out.trans d4);clear d3 d4 LJ hr;go_wp2_with fail;go_ret;rw [nE.out];exact ⟨rfl, tq.out, fR.out⟩
   by_cases h3 : r = 117
   ·subst h3;have AJ : i + 1 < n := (by rw [← hlen]; exact bA (by omega));have nE := Lib.hid (show R = jn L (i + 1) from LJ.out);have HX := Lib.hid (GK.out _ AY.out AJ);clear LJ hr GK;cases hx : jn L (i + 1) with
    | error e0 =>
     obtain ⟨x, p⟩ := e0;rw [hx] at HX;have qH := Lib.hid (nE.out.trans hx);clear hx;go_wp2_with fail;refine HX.out.mono ?_;rintro e w5 ⟨he, hb⟩;unfold aZ at he;subst he;have fR := Lib.hid (iW.out.trans hb);clear hb;go_wp2_with fail;rw [qH.out];exact ⟨rfl, rfl, fR.out⟩
    | ok q =>
     obtain ⟨x, p⟩ := q;rw [hx] at HX;have qH := Lib.hid (nE.out.trans hx);clear hx;go_wp2_with fail;refine HX.out.mono ?_;rintro e w5 ⟨rfl, hc, hb⟩;have tq := Lib.hid hc;have fR := Lib.hid (iW.out.trans hb);clear hb hc;go_wp2_with fail;go_ret;rw [qH.out];exact ⟨rfl, tq.out, fR.out⟩
   have Ku := Lib.hid (show R = if r < 0 ∨ C9 r = true then .error (2, i + 1) else .ok (r, i + 2) by rw [LJ.out, if_neg h1, if_neg h2, if_neg h3]);have q1 : (r == 110) = false := (by simp; exact h1);have q2 : (r == 116) = false := (by simp; exact h2);have q3 : (r == 117) = false := (by simp; exact h3);clear LJ h1 h2 h3 GK;by_cases wD : r < 0 ∨ C9 r = true
   ·have nE := Lib.hid (show R = .error (2, i + 1) by rw [Ku.out, if_pos wD]);have d1 := AY.out.ey.cell 1;have hcell : w3.cell? ⟨C, 1, none⟩ = some (.int .i64 ((i : Int) + 1)) := (by rw [← hcast]; exact d1);have HF := Lib.hid (fun (W : World) => bX 2 ((i : Int) + 1) W);rw [Aw] at wD;clear Ku d1;rcases (show r < 0 ∨ (48 ≤ r ∧ r ≤ 57) ∨ (97 ≤ r ∧ r ≤ 122) ∨ (65 ≤ r ∧ r ≤ 90) by omega) with h1 | ⟨h1, h2⟩ | ⟨h1, h2⟩ | ⟨h1, h2⟩
    all_goals
      clear wD
      go_wp2_with fail
      refine (HF.out _).mono ?_
      rintro e w5 ⟨rfl, rfl⟩
      go_wp2_with fail
      rw [nE.out]
      exact ⟨rfl, by rw [aZ, hcast], iW.out⟩
   have nE := Lib.hid (show R = .ok (r, i + 2) by rw [Ku.out, if_neg wD]);rw [Aw] at wD;have AJ : i + 1 < n := (by rw [← hlen]; exact bA (by omega));obtain ⟨d1, d2, d3, d4⟩ := AY.out.step AJ;rw [hcast] at d1 d3 d4;have tq := Lib.hid d3;have fR := Lib.hid (iW.out.trans d4);clear d3 d4 Ku hr;rcases (show (0 ≤ r ∧ r < 48) ∨ (57 < r ∧ r < 65) ∨ (90 < r ∧ r < 97) ∨ 122 < r by omega) with ⟨h1, h2⟩ | ⟨h1, h2⟩ | ⟨h1, h2⟩ | h1
   all_goals
     clear wD
     go_wp2_with fail
     go_ret
     rw [nE.out]
     exact ⟨rfl, tq.out, fR.out⟩
  have nE := Lib.hid (show R = .error (2, i) from gG.out.symm.trans (Jd hp wj));have aba : (pk L i != 92) = true := (by simp [wj]);clear hp;go_enter Tryz.func130, Tryz.ntmps130;go_wp2_with fail;refine (fP.out _ _ HC.out).mono ?_;rintro e w1 ⟨rfl, m, rfl⟩;go_wp2_with fail;refine (Js.out _).mono ?_;rintro e w2 ⟨rfl, hb⟩;have qt := Lib.hid ((HC.out.drewN m).below hb);have cE := Lib.hid ((bK.drewN w C m).trans (bK.below C hb));clear hb;have d1 := qt.out.ey.cell 1;go_wp2_with fail;refine (bX 2 i _).mono ?_;rintro e w3 ⟨rfl, rfl⟩;go_wp2_with fail;rw [nE.out];exact ⟨rfl, rfl, cE.out⟩
theorem Bi (W : World) (v : Value) : (Instr.typeAssert (.iface 126 v) 20 126 true).run Tryz.prog W = .ok (.tuple #[v, .bool true]) W := by kernel_rfl
theorem Bj (f : Addr) (w : World) :
    CallsD Tryz.prog 35 #[.pointer (some f)] .returning w fun e u' w' => e = .returned (.tuple #[]) ∧ u' = .returning ∧ w' = w := by
 refine callsD_of_wpS Tryz.func35 rfl fun c₀ cs hu => ?_;apply wpS_seq;apply wpS_region;simp [wpOpsS, go_sem, recoverD, hu, Tryz.ntmps35, Exit.thenS];refine wpS_of_wp ?_;go_wp2_with fail;cases c₀;simp_all [bodyPostS, results, Tryz.results35]
theorem wA (f : Nat) (x p a b : Int) (t : TypeId) (older : List PanicEntry) (w : World) (hf : au w f t #[.int .i64 a, .int .i64 b]) :
    CallsD Tryz.prog 35 #[.pointer (some ⟨f, 0, none⟩)] (.panicking ({ v := .iface 126 (.agg #[.int .i64 x, .int .i64 p]), recovered := false } :: older)) w fun e u' w' =>
      e = .returned (.tuple #[]) ∧ u' = .panicking ({ v := .iface 126 (.agg #[.int .i64 x, .int .i64 p]), recovered := true } :: older) ∧ au w' f t #[.int .i64 x, .int .i64 p] ∧ bK w f w' := by
 have f0 := hf.frozen 0;have f1 := hf.frozen 1;have c0 := hf.cell 0;have c1 := hf.cell 1;refine callsD_of_wpS Tryz.func35 rfl fun c₀ cs hu => ?_;apply wpS_seq;apply wpS_region;simp [wpOpsS, go_sem, recoverD, hu, Tryz.ntmps35, Exit.thenS];refine wpS_of_wp ?_;have e (V : Value) : (#[Value.pointer (some ⟨f, 0, none⟩)] ++ (Array.replicate 14 undef).setIfInBounds 4 V) = #[.pointer (some ⟨f, 0, none⟩), undef, undef, undef, undef, V, undef, undef, undef, undef, undef, undef, undef, undef, undef] := rfl;rw [e];have hlt := hf.lt;have hta := fun (W : World) (v : Value) => Bi W v;go_wp2_with fail;have hB : au (((w.setCell ⟨f, 0, none⟩ (.int .i64 x)).setCell ⟨f, 1, none⟩ (.int .i64 p)).alloc (.cells #[.int .i64 x, .int .i64 p] 126)) f t #[.int .i64 x, .int .i64 p] := ((hf.put 0 _).put 1 _).alloc _;have hS : bK w f (((w.setCell ⟨f, 0, none⟩ (.int .i64 x)).setCell ⟨f, 1, none⟩ (.int .i64 p)).alloc (.cells #[.int .i64 x, .int .i64 p] 126)) := ((bK.set w f 0 _).trans (bK.set _ f 1 _)).trans (bK.below f ((Below.refl _ _).alloc (Nat.le_refl _) _));simp [bodyPostS, results, Tryz.results35, hB, hS]
end Go.Proofs.YthnhbcohfoodlaaGreatDoor
