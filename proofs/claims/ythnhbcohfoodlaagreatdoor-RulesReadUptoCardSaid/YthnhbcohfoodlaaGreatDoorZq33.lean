/- RefFr + RefLp + WkFr -/
import Derived.Test.YthnhbcohfoodlaaGreatDoorZq23
import Derived.Test.YthnhbcohfoodlaaGreatDoorZq32
import Derived.Test.YthnhbcohfoodlaaGreatDoorZq8
import Derived.Test.YthnhbcohfoodlaaGreatDoorZq24
import Derived.Test.YthnhbcohfoodlaaGreatDoorZq9
set_option maxHeartbeats 3200000
namespace Go.Proofs.YthnhbcohfoodlaaGreatDoor
open Go.RowKit
theorem aO.apart {w : World} {C G : Nat} {A : Option Addr} {n c : Nat} {L : List Int} {i e p : Int} {t : TypeId} {v : Value} (h : aO w C A n c L i e p) (hG : aM w G t #[v]) (hv : ∀ x, v ≠ .int .i32 x) : di w (fun b => b ≠ C ∧ b ≠ G) 1 A n (ax L) := by
 refine ⟨h.row.1, fun hn => ?_⟩;obtain ⟨b, off, e, hb, hl, hc⟩ := h.row.2 hn;refine ⟨b, off, e, ⟨hb, fun he => ?_⟩, hl, hc⟩;subst he;have hlen := h.len;obtain ⟨x, hx⟩ : ∃ x, L[0]? = some x := ⟨_, List.getElem?_eq_getElem (by omega)⟩;have h1 := hc 0 (.int .i32 x) (by rw [bO, hx]; rfl);rw [hG.cell] at h1;rcases off with _ | off
 ·simp at h1;exact hv x h1
 simp at h1
theorem aO.set {w : World} {C G : Nat} {A : Option Addr} {n c : Nat} {L : List Int} {i e p : Int} {t : TypeId} {v : Value} (h : aO w C A n c L i e p) (hG : aM w G t #[v]) (hv : ∀ x, v ≠ .int .i32 x) (hne : C ≠ G) (u : Value) : aO (w.setCell ⟨G, 0, none⟩ u) C A n c L i e p := by
 have hk : aF w G (w.setCell ⟨G, 0, none⟩ u) := aF.set _ _ _ _;obtain ⟨t, hb⟩ := h.cX;exact ⟨⟨t, (hk.2.2.2.2 C hb.lt hne).trans hb⟩, (h.apart hG hv).keep (hk.keeps (fun b h => h.2) (fun b h _ => h.1)), h.size, h.cap⟩
structure fO (w : World) (C P G : Nat) (A : Option Addr) (n c : Nat) (L : List Int) (i e p : Int) (s : ag) (wr : World) : Prop where
  wk : aO wr C A n c L i e p
  box : aM wr P 70 #[.pointer (some ⟨C, 0, none⟩)]
  set : ∃ B m d, aM wr G 22 #[.slice B m d] ∧ di wr (fun b => b ≠ C ∧ b ≠ P ∧ b ≠ G ∧ w.heap.size ≤ b) 2 B m (ak s) ∧ m ≤ d
  right : aK s
  but : aF w C wr
  lo : C < w.heap.size ∧ w.heap.size ≤ P ∧ w.heap.size ≤ G ∧ P ≠ G
section
variable {w wr w' : World} {C P G : Nat} {A : Option Addr} {n c : Nat} {L : List Int} {i e p : Int} {s : ag}
theorem fO.bJ (h : fO w C P G A n c L i e p s wr) (hb : aF wr C w') {i' e' p' : Int} (hc : aO w' C A n c L i' e' p') : fO w C P G A n c L i' e' p' s w' := by
 obtain ⟨B, m, d, h1, h2, h3⟩ := h.set;obtain ⟨l1, l2, l3, l4⟩ := h.lo;exact ⟨hc, (hb.2.2.2.2 P h.box.lt (by omega)).trans h.box, ⟨B, m, d, (hb.2.2.2.2 G h1.lt (by omega)).trans h1, h2.keep (hb.keeps (fun b h => h.1) (fun b h _ => h)), h3⟩, h.right, h.but.trans hb, h.lo⟩
theorem fO.below (h : fO w C P G A n c L i e p s wr) (hb : Below wr.heap.size wr w') : fO w C P G A n c L i e p s w' := h.bJ (aF.below C hb) (h.wk.keep hb)
theorem fO.put (h : fO w C P G A n c L i e p s wr) {t : ag} {B : Option Addr} {m d : Nat} (hr : di wr (fun b => b ≠ C ∧ b ≠ P ∧ b ≠ G ∧ w.heap.size ≤ b) 2 B m (ak t)) (hd : m ≤ d) (ht : aK t) :
    fO w C P G A n c L i e p t (wr.setCell ⟨G, 0, none⟩ (.slice B m d)) := by
 obtain ⟨B0, m0, d0, h1, h2, h3⟩ := h.set;obtain ⟨l1, l2, l3, l4⟩ := h.lo;have hk : aF wr G (wr.setCell ⟨G, 0, none⟩ (.slice B m d)) := aF.set _ _ _ _;refine ⟨h.wk.set h1 (fun x e => by cases e) (by omega) _, (hk.2.2.2.2 P h.box.lt l4).trans h.box, ⟨B, m, d, h1.put 0 _, hr.keep (hk.keeps (fun b h => h.2.2.1) (fun b h _ => h)), hd⟩, ht, ?_, h.lo⟩;exact ⟨Nat.le_trans h.but.1 hk.1, hk.2.1.trans h.but.2.1, hk.2.2.1.trans h.but.2.2.1, hk.2.2.2.1.trans h.but.2.2.2.1, fun b hb hne => (hk.2.2.2.2 b (Nat.lt_of_lt_of_le hb h.but.1) (by omega)).trans (h.but.2.2.2.2 b hb hne)⟩
theorem fO.p0 (h : fO w C P G A n c L i e p s wr) : wr.cell? ⟨P, 0, none⟩ = some (.pointer (some ⟨C, 0, none⟩)) := h.box.cell 0
theorem fO.now (h : fO w C P G A n c L i e p s wr) : ∃ B m d, wr.cell? ⟨G, 0, none⟩ = some (.slice B m d) ∧ wr.frozen? ⟨G, 0, none⟩ = false ∧ bk wr B m d s := by
 obtain ⟨B, m, d, h1, h2, h3⟩ := h.set;exact ⟨B, m, d, h1.cell 0, h1.frozen 0, h.right, h2.of, h3⟩
end
theorem AO (op : Int) (hop : op = 124 ∨ op = 38 ∨ op = 45 ∨ op = 94) (w wr : World) (C P G : Nat) (A B : Option Addr) (n c m d : Nat) (L : List Int) (i p : Int) (s t : ag) (h : fO w C P G A n c L i 0 p s wr) (ht : bk wr B m d t) :
    Calls Tryz.prog 81 (#[.int .u8 op, .slice B m d] ++ #[.pointer (some ⟨G, 0, none⟩), .pointer (some ⟨P, 0, none⟩)]) wr fun e w' => e = .returned (.tuple #[]) ∧
      (((gS op s t).2 = 0 ∧ fO w C P G A n c L i 0 p (gS op s t).1 w') ∨ ((gS op s t).2 ≠ 0 ∧ fO w C P G A n c L i (gS op s t).2 i (gS op s t).1 w')) := by
 obtain ⟨B0, m0, d0, c0, _, ha⟩ := h.now;have IS := Lib.hid (C' op hop B0 B m0 d0 m d s t wr ha ht);have HF := Lib.hid h;have HR := Lib.hid (fI op h.right ht.right);obtain ⟨u, x, ho⟩ : ∃ u x, gS op s t = (u, x) := ⟨_, _, rfl⟩;rw [ho] at IS HR ⊢;simp only at IS HR ⊢;clear h ht ha ho;go_enter Tryz.func81, Tryz.ntmps81;go_wp2_with fail;refine IS.out.mono ?_;rintro e w1 ⟨B1, m1, d1, rfl, uP, _, yS, aT⟩;have dP := Lib.hid (HF.out.below aT);have fX := Lib.hid (uP.lift (X' := fun b => b ≠ C ∧ b ≠ P ∧ b ≠ G ∧ w.heap.size ≤ b) (fun b hb => by
  obtain ⟨l1, l2, l3, l4⟩ := HF.out.lo;obtain ⟨_, _, _, hg, _⟩ := HF.out.set;have h1 := hg.lt;have h2 := HF.out.box.lt;have h3 := HF.out.but.1;exact ⟨by omega, by omega, by omega, by omega⟩))
 clear uP aT;by_cases hx : x = 0
 ·subst hx;have HP := Lib.hid (dP.out.put fX.out yS HR.out);obtain ⟨_, _, _, g1, f1, _⟩ := dP.out.now;go_wp2_with fail;go_end0;exact ⟨rfl, HP.out⟩
 have I4 : (x != 0) = true := (by simp; exact hx);have eF := Lib.hid (fun (W : World) (h : aO W C A n c L i 0 p) => dY W C A n c L i p x i h);have p0 := dP.out.p0;have k1 := dP.out.wk.c1;have HX := Lib.hid hx;clear hx;go_upto_region 2 with fail;refine aD (S := (fun w' => w'.cell? ⟨P, 0, none⟩ = some (.pointer (some ⟨C, 0, none⟩)) ∧ w'.cell? ⟨C, 1, none⟩ = some (.int .i64 i))) [0, 2, 5] (by kernel_rfl) ⟨p0, k1⟩ (fun bf => ?_);refine ai (i := 0) (oi := ⟨some 17, _, _, _, _, _⟩) (v := ?_) rfl (by kernel_rfl) (by kernel_rfl) (by kernel_rfl) (by kernel_rfl) (by kernel_rfl) (fun _ _ _ h => h) (Or.inl ⟨by rfl, ?_⟩) (by assumption) ?_;rotate_left 1
 ·intro wq bS;(try dsimp only at bS);go_simp;(try with_reducible rfl)
 (try simp only [Act.put, List.setIfInBounds_toArray, List.set_cons_zero, List.set_cons_succ]);refine aa (i := 1) (oi := ⟨some 18, _, _, _, _, _⟩) (v := ?_) rfl (by kernel_rfl) (by kernel_rfl) (by kernel_rfl) (fun _ _ _ h => h) (Or.inl ⟨by rfl, ?_⟩) ?_;rotate_left 1
 ·intro wq _;go_simp;(try with_reducible rfl)
 (try simp only [Act.put, List.setIfInBounds_toArray, List.set_cons_zero, List.set_cons_succ]);refine ai (i := 2) (oi := ⟨some 19, _, _, _, _, _⟩) (v := ?_) rfl (by kernel_rfl) (by kernel_rfl) (by kernel_rfl) (by kernel_rfl) (by kernel_rfl) (fun _ _ _ h => h) (Or.inl ⟨by rfl, ?_⟩) (by assumption) ?_;rotate_left 1
 ·intro wq bS;(try dsimp only at bS);go_simp;(try with_reducible rfl)
 (try simp only [Act.put, List.setIfInBounds_toArray, List.set_cons_zero, List.set_cons_succ]);refine aa (i := 3) (oi := ⟨some 20, _, _, _, _, _⟩) (v := ?_) rfl (by kernel_rfl) (by kernel_rfl) (by kernel_rfl) (fun _ _ _ h => h) (Or.inl ⟨by rfl, ?_⟩) ?_;rotate_left 1
 ·intro wq _;go_simp;(try with_reducible rfl)
 (try simp only [Act.put, List.setIfInBounds_toArray, List.set_cons_zero, List.set_cons_succ]);refine aa (i := 4) (oi := ⟨some 21, _, _, _, _, _⟩) (v := ?_) rfl (by kernel_rfl) (by kernel_rfl) (by kernel_rfl) (fun _ _ _ h => h) (Or.inl ⟨by rfl, ?_⟩) ?_;rotate_left 1
 ·intro wq _;go_simp;(try with_reducible rfl)
 (try simp only [Act.put, List.setIfInBounds_toArray, List.set_cons_zero, List.set_cons_succ]);refine ai (i := 5) (oi := ⟨some 22, _, _, _, _, _⟩) (v := ?_) rfl (by kernel_rfl) (by kernel_rfl) (by kernel_rfl) (by kernel_rfl) (by kernel_rfl) (fun _ _ _ h => h) (Or.inl ⟨by rfl, ?_⟩) (by assumption) ?_;rotate_left 1
 ·intro wq bS;(try dsimp only at bS);go_simp;(try with_reducible rfl)
 (try simp only [Act.put, List.setIfInBounds_toArray, List.set_cons_zero, List.set_cons_succ]);refine az (i := 6) (o := ⟨some 23, _, _, _, _, _⟩) (by kernel_rfl) rfl (by kernel_rfl) (fun K hK => ?_);go_simp;go_at_call 44;refine (eF.out _ (dP.out.wk.drewN 1)).mono ?_;rintro e w2 ⟨rfl, dQ, aU⟩;have hdb := (aF.drewN w1 C 1).trans aU;have eZ := Lib.hid (dP.out.bJ hdb dQ);have kN := Lib.hid (fX.out.keep (hdb.keeps (fun b h => h.1) (fun b h _ => h)));clear dQ aU hdb;have HP := Lib.hid (eZ.out.put kN.out yS HR.out);obtain ⟨_, _, _, g1, f1, _⟩ := eZ.out.now;(try dsimp only);refine hK.out _ _ ?_;clear hK K;refine aN (by kernel_rfl) ?_ _;go_simp;go_wp2_with fail;go_end0;exact ⟨rfl, .inr ⟨HX.out, HP.out⟩⟩
theorem Kb (op : Int) (hop : op = 124 ∨ op = 38 ∨ op = 45 ∨ op = 94) (w wr : World) (C P G : Nat) (A B : Option Addr) (n c m d : Nat) (L : List Int) (i e p : Int) (he : e ≠ 0) (s t : ag) (h : fO w C P G A n c L i e p s wr) (ht : bk wr B m d t) :
    Calls Tryz.prog 81 (#[.int .u8 op, .slice B m d] ++ #[.pointer (some ⟨G, 0, none⟩), .pointer (some ⟨P, 0, none⟩)]) wr fun en w' => en = .returned (.tuple #[]) ∧ fO w C P G A n c L i e p (gS op s t).1 w' := by
 obtain ⟨B0, m0, d0, c0, _, ha⟩ := h.now;have IS := Lib.hid (C' op hop B0 B m0 d0 m d s t wr ha ht);have HF := Lib.hid h;have HR := Lib.hid (fI op h.right ht.right);have HE := Lib.hid he;obtain ⟨u, x, ho⟩ : ∃ u x, gS op s t = (u, x) := ⟨_, _, rfl⟩;rw [ho] at IS HR ⊢;simp only at IS HR ⊢;clear h ht ha he ho;go_enter Tryz.func81, Tryz.ntmps81;go_wp2_with fail;refine IS.out.mono ?_;rintro en w1 ⟨B1, m1, d1, rfl, uP, _, yS, aT⟩;have dP := Lib.hid (HF.out.below aT);have fX := Lib.hid (uP.lift (X' := fun b => b ≠ C ∧ b ≠ P ∧ b ≠ G ∧ w.heap.size ≤ b) (fun b hb => by
  obtain ⟨l1, l2, l3, l4⟩ := HF.out.lo;obtain ⟨_, _, _, hg, _⟩ := HF.out.set;have h1 := hg.lt;have h2 := HF.out.box.lt;have h3 := HF.out.but.1;exact ⟨by omega, by omega, by omega, by omega⟩))
 clear uP aT;by_cases hx : x = 0
 ·subst hx;have HP := Lib.hid (dP.out.put fX.out yS HR.out);obtain ⟨_, _, _, g1, f1, _⟩ := dP.out.now;go_wp2_with fail;go_end0;exact ⟨rfl, HP.out⟩
 have I4 : (x != 0) = true := (by simp; exact hx);have eF := Lib.hid (fun (W : World) (h : aO W C A n c L i e p) => eK W C A n c L i e p x i h HE.out);have p0 := dP.out.p0;have k1 := dP.out.wk.c1;clear hx;go_upto_region 2 with fail;refine aD (S := (fun w' => w'.cell? ⟨P, 0, none⟩ = some (.pointer (some ⟨C, 0, none⟩)) ∧ w'.cell? ⟨C, 1, none⟩ = some (.int .i64 i))) [0, 2, 5] (by kernel_rfl) ⟨p0, k1⟩ (fun bf => ?_);refine ai (i := 0) (oi := ⟨some 17, _, _, _, _, _⟩) (v := ?_) rfl (by kernel_rfl) (by kernel_rfl) (by kernel_rfl) (by kernel_rfl) (by kernel_rfl) (fun _ _ _ h => h) (Or.inl ⟨by rfl, ?_⟩) (by assumption) ?_;rotate_left 1
 ·intro wq bS;(try dsimp only at bS);go_simp;(try with_reducible rfl)
 (try simp only [Act.put, List.setIfInBounds_toArray, List.set_cons_zero, List.set_cons_succ]);refine aa (i := 1) (oi := ⟨some 18, _, _, _, _, _⟩) (v := ?_) rfl (by kernel_rfl) (by kernel_rfl) (by kernel_rfl) (fun _ _ _ h => h) (Or.inl ⟨by rfl, ?_⟩) ?_;rotate_left 1
 ·intro wq _;go_simp;(try with_reducible rfl)
 (try simp only [Act.put, List.setIfInBounds_toArray, List.set_cons_zero, List.set_cons_succ]);refine ai (i := 2) (oi := ⟨some 19, _, _, _, _, _⟩) (v := ?_) rfl (by kernel_rfl) (by kernel_rfl) (by kernel_rfl) (by kernel_rfl) (by kernel_rfl) (fun _ _ _ h => h) (Or.inl ⟨by rfl, ?_⟩) (by assumption) ?_;rotate_left 1
 ·intro wq bS;(try dsimp only at bS);go_simp;(try with_reducible rfl)
 (try simp only [Act.put, List.setIfInBounds_toArray, List.set_cons_zero, List.set_cons_succ]);refine aa (i := 3) (oi := ⟨some 20, _, _, _, _, _⟩) (v := ?_) rfl (by kernel_rfl) (by kernel_rfl) (by kernel_rfl) (fun _ _ _ h => h) (Or.inl ⟨by rfl, ?_⟩) ?_;rotate_left 1
 ·intro wq _;go_simp;(try with_reducible rfl)
 (try simp only [Act.put, List.setIfInBounds_toArray, List.set_cons_zero, List.set_cons_succ]);refine aa (i := 4) (oi := ⟨some 21, _, _, _, _, _⟩) (v := ?_) rfl (by kernel_rfl) (by kernel_rfl) (by kernel_rfl) (fun _ _ _ h => h) (Or.inl ⟨by rfl, ?_⟩) ?_;rotate_left 1
 ·intro wq _;go_simp;(try with_reducible rfl)
 (try simp only [Act.put, List.setIfInBounds_toArray, List.set_cons_zero, List.set_cons_succ]);refine ai (i := 5) (oi := ⟨some 22, _, _, _, _, _⟩) (v := ?_) rfl (by kernel_rfl) (by kernel_rfl) (by kernel_rfl) (by kernel_rfl) (by kernel_rfl) (fun _ _ _ h => h) (Or.inl ⟨by rfl, ?_⟩) (by assumption) ?_;rotate_left 1
 ·intro wq bS;(try dsimp only at bS);go_simp;(try with_reducible rfl)
 (try simp only [Act.put, List.setIfInBounds_toArray, List.set_cons_zero, List.set_cons_succ]);refine az (i := 6) (o := ⟨some 23, _, _, _, _, _⟩) (by kernel_rfl) rfl (by kernel_rfl) (fun K hK => ?_);go_simp;go_at_call 44;refine (eF.out _ (dP.out.wk.drewN 1)).mono ?_;rintro en w2 ⟨rfl, yQ⟩;have eZ := Lib.hid (dP.out.below (below_drewN (Below.refl _ _) 1));have kN := Lib.hid (fX.out.keep (aC.any (below_drewN (Below.refl _ _) 1)));have HP := Lib.hid (eZ.out.put kN.out yS HR.out);obtain ⟨_, _, _, g1, f1, _⟩ := eZ.out.now;rw [← yQ] at HP g1 f1;clear yQ;(try dsimp only);refine hK.out _ _ ?_;clear hK K;refine aN (by kernel_rfl) ?_ _;go_simp;go_wp2_with fail;go_end0;exact ⟨rfl, HP.out⟩
def DR (w : World) (C P G : Nat) (A : Option Addr) (n c : Nat) (L : List Int) (p : Int) (inner : Nat → fH ag) (Rp : fH ag) (wr : World) : Prop :=
  ∃ (i e q : Int) (s : ag), fO w C P G A n c L i e q s wr ∧
    ((e = 0 ∧ q = p ∧ ∃ f j : Nat, i = (j : Int) ∧ j ≤ n ∧ n + 1 ≤ f + j ∧ Rp = cH inner L f j s) ∨ (e ≠ 0 ∧ ∃ y : Nat, q = (y : Int) ∧ Rp = .error (e, y)))
def zm (C n : Nat) (wr : World) : Nat := match wr.cell? ⟨C, 2, none⟩ with | some (.int _ e) => (if e = 0 then n + 1 - (match wr.cell? ⟨C, 1, none⟩ with | some (.int _ j) => j.toNat | _ => 0) else 0) | _ => 0
theorem zm.good {wr : World} {C : Nat} {A : Option Addr} {n c : Nat} {L : List Int} {j : Nat} {p : Int} (h : aO wr C A n c L (j : Int) 0 p) : zm C n wr = n + 1 - j := by
 unfold zm;rw [h.c2, h.c1];simp
theorem zm.yT {wr : World} {C : Nat} {A : Option Addr} {n c : Nat} {L : List Int} {i e q : Int} (h : aO wr C A n c L i e q) (he : e ≠ 0) : zm C n wr = 0 := by
 unfold zm;rw [h.c2];simp [he]
def MF (n j : Nat) (p : Int) (r : fH ag) (t : ag) (i e q : Int) : Prop :=
  match r with
  | .ok (t', j2) => t = t' ∧ e = 0 ∧ q = p ∧ i = (j2 : Int) ∧ j < j2 ∧ j2 ≤ n
  | .error (x, y) => x ≠ 0 ∧ e = x ∧ q = (y : Int)
theorem si {w wr : World} {C P G : Nat} {A : Option Addr} {n c : Nat} {L : List Int} {p : Int} {inner : Nat → fH ag} {Rp : fH ag} {i e : Int} {y f j : Nat} {s s' : ag} (h : fO w C P G A n c L i e y s' wr) (he : e ≠ 0) (hr : Rp = cH inner L (f + 1) j s) (vm : pk L (aG L j) ≠ 93) (hres : bZ inner L (aG L j) = .error (e, y)) (hj : j ≤ n) :
    DR w C P G A n c L p inner Rp wr ∧ zm C n wr < n + 1 - j :=
  ⟨⟨i, e, y, s', h, .inr ⟨he, y, rfl, hr.trans (hJ vm hres)⟩⟩, by rw [zm.yT h.wk he]; omega⟩
theorem iO (op : Int) (hop : op = 124 ∨ op = 38 ∨ op = 45) {w wr : World} {C P G : Nat} {A B : Option Addr} {n c m d : Nat} {L : List Int} {p : Int} {inner : Nat → fH ag} {Rp JL : fH ag} {i e q : Int} {f j : Nat} {s t : ag}
    (h : fO w C P G A n c L i e q s wr) (ht : bk wr B m d t) (ho : kT (pk L (aG L j)) = op) (hr : Rp = cH inner L (f + 1) j s) (vm : pk L (aG L j) ≠ 93) (hres : bZ inner L (aG L j) = JL)
    (hp : MF n j p JL t i e q) (hf : n + 1 ≤ f + 1 + j) (hj : j ≤ n) :
    Calls Tryz.prog 81 (#[.int .u8 op, .slice B m d] ++ #[.pointer (some ⟨G, 0, none⟩), .pointer (some ⟨P, 0, none⟩)]) wr fun en w' => en = .returned (.tuple #[]) ∧ DR w C P G A n c L p inner Rp w' ∧ zm C n w' < n + 1 - j := by
 have MI : op = 124 ∨ op = 38 ∨ op = 45 ∨ op = 94 := (by omega);cases JL with
 | error x =>
  obtain ⟨x, y⟩ := x;obtain ⟨hx, rfl, rfl⟩ := hp;refine (Kb op MI w wr C P G A B n c m d L i e y hx s t h ht).mono ?_;rintro en w' ⟨rfl, h2⟩;exact ⟨rfl, si h2 hx hr vm hres hj⟩
 | ok x =>
  obtain ⟨t', j2⟩ := x;obtain ⟨rfl, rfl, rfl, rfl, hlt, hle⟩ := hp;have hst := hr.trans (gh vm hres);rw [ho] at hst;refine (AO op MI w wr C P G A B n c m d L j2 q s t h ht).mono ?_;rintro en w' ⟨rfl, ⟨h0, h2⟩ | ⟨h0, h2⟩⟩
  ·rw [if_neg (fun h => h h0)] at hst;exact ⟨rfl, ⟨_, _, _, _, h2, .inl ⟨rfl, rfl, f, j2, rfl, hle, by omega, hst⟩⟩, by rw [zm.good h2.wk]; omega⟩
  rw [if_pos h0] at hst;exact ⟨rfl, ⟨_, _, _, _, h2, .inr ⟨h0, j2, rfl, hst⟩⟩, by rw [zm.yT h2.wk h0]; omega⟩
def nK (w : World) (C : Nat) (A : Option Addr) (n c : Nat) (L : List Int) (p : Int) (r : fH ag) (e : Ending) (w' : World) : Prop :=
  (∃ B m d s, e = .returned (.slice B m d) ∧ di w' (fun b => w.heap.size ≤ b) 2 B m (ak s) ∧ m ≤ d ∧ aK s ∧
    (match r with
    | .ok (t, j) => s = t ∧ j ≤ n ∧ aO w' C A n c L (j : Nat) 0 p
    | .error (x, q) => x ≠ 0 ∧ ∃ i, aO w' C A n c L i x q)) ∧ aF w C w'
theorem fO.inner {w wr w1 : World} {C P G : Nat} {A : Option Addr} {n c : Nat} {L : List Int} {k j : Nat} {p i : Int} {s : ag} {r : fH ag} {en : Ending} (h : fO w C P G A n c L i 0 p s wr) (hp : nK wr C A n c L p r en w1) (hlt : ∀ t j2, r = .ok (t, j2) → k < j2) (hj : j ≤ k) :
    ∃ B m d t i' e q, en = .returned (.slice B m d) ∧ fO w C P G A n c L i' e q s w1 ∧ bk w1 B m d t ∧ MF n j p r t i' e q := by
 obtain ⟨⟨B, m, d, t, rfl, hr, hd, ht, hm⟩, hb⟩ := hp;cases r with
 | error x =>
  obtain ⟨x, y⟩ := x;obtain ⟨hx, i', hw⟩ := hm;exact ⟨B, m, d, t, i', x, y, rfl, h.bJ hb hw, ⟨ht, hr.of, hd⟩, hx, rfl, rfl⟩
 | ok x =>
  obtain ⟨t', j2⟩ := x;obtain ⟨rfl, hle, hw⟩ := hm;exact ⟨B, m, d, t, _, _, _, rfl, h.bJ hb hw, ⟨ht, hr.of, hd⟩, rfl, rfl, rfl, rfl, by have := hlt t j2 rfl; omega, hle⟩
structure iT (lo : Nat) (w : World) (C : Nat) (A : Option Addr) (n c : Nat) (L : List Int) (i e p : Int) : Prop where
  wk : aO w C A n c L i e p
  row : di w (fun b => b ≠ C ∧ b < lo) 1 A n (ax L)
  lt : C < lo
theorem iT.start {w : World} {C : Nat} {A : Option Addr} {n c : Nat} {L : List Int} {i e p : Int} (h : aO w C A n c L i e p) : iT w.heap.size w C A n c L i e p :=
  ⟨h, h.row.keep (fun _ hX hl => ⟨rfl, ⟨hX, hl⟩, hl⟩), h.lt⟩
theorem iT.but {lo : Nat} {w w' : World} {C : Nat} {A : Option Addr} {n c : Nat} {L : List Int} {i e p i' e' p' : Int} (h : iT lo w C A n c L i e p) (hc : aO w' C A n c L i' e' p') (hb : aF w C w') : iT lo w' C A n c L i' e' p' :=
  ⟨hc, h.row.keep (hb.keeps (fun _ h => h.1) (fun _ h _ => h)), h.lt⟩
theorem iT.below {lo : Nat} {w w' : World} {C : Nat} {A : Option Addr} {n c : Nat} {L : List Int} {i e p : Int} (h : iT lo w C A n c L i e p) (hb : Below lo w w') : iT lo w' C A n c L i e p := by
 have hr : di w' (fun b => b ≠ C ∧ b < lo) 1 A n (ax L) := h.row.keep (fun b hX hl => ⟨hb.block b hX.2, hX, Nat.lt_of_lt_of_le hl hb.size⟩);obtain ⟨t, ht⟩ := h.wk.cX;exact ⟨⟨⟨t, ht.below hb h.lt⟩, hr.lift (fun _ h => h.1), h.wk.size, h.wk.cap⟩, hr, h.lt⟩
def iC (lo : Nat) (w : World) (C : Nat) (A : Option Addr) (n c : Nat) (L : List Int) (p : Int) (G : Nat → Prop) (B : Int × Nat → Prop) : Prop :=
  (∃ j : Nat, G j ∧ j ≤ n ∧ iT lo w C A n c L j 0 p) ∨ ∃ (x : Int) (q : Nat) (i : Int), B (x, q) ∧ x ≠ 0 ∧ iT lo w C A n c L i x q
section
variable {lo : Nat} {w w' : World} {C : Nat} {A : Option Addr} {n c : Nat} {L : List Int} {p : Int} {G G' : Nat → Prop} {B B' : Int × Nat → Prop}
theorem iC.below (h : iC lo w C A n c L p G B) (hb : Below lo w w') : iC lo w' C A n c L p G B := by
 rcases h with ⟨j, h1, h2, h3⟩ | ⟨x, q, i, h1, h2, h3⟩;exact .inl ⟨j, h1, h2, h3.below hb⟩;exact .inr ⟨x, q, i, h1, h2, h3.below hb⟩
theorem iC.imp (h : iC lo w C A n c L p G B) (hG : ∀ j, G j → G' j) (hB : ∀ e, B e → B' e) : iC lo w C A n c L p G' B' := by
 rcases h with ⟨j, h1, h2, h3⟩ | ⟨x, q, i, h1, h2, h3⟩;exact .inl ⟨j, hG j h1, h2, h3⟩;exact .inr ⟨x, q, i, hB _ h1, h2, h3⟩
theorem iC.lt (h : iC lo w C A n c L p G B) : C < lo := by
 rcases h with ⟨j, h1, h2, h3⟩ | ⟨x, q, i, h1, h2, h3⟩;exact h3.lt;exact h3.lt
end
theorem G3 {w w1 : World} {C : Nat} {A : Option Addr} {n c : Nat} {L : List Int} {p : Int} {r : fH ag} {e : Ending} {lo : Nat} {i0 e0 p0 : Int} (h : nK w C A n c L p r e w1) (hl : iT lo w C A n c L i0 e0 p0) :
    ∃ B m d s, e = .returned (.slice B m d) ∧ di w1 (fun b => w.heap.size ≤ b) 2 B m (ak s) ∧ m ≤ d ∧ aK s ∧ aF w C w1 ∧ iC lo w1 C A n c L p (fun j => r = .ok (s, j)) (fun e => r = .error e) := by
 obtain ⟨⟨B, m, d, s, he, h1, h2, h3, h4⟩, hb⟩ := h;refine ⟨B, m, d, s, he, h1, h2, h3, hb, ?_⟩;cases r with
 | error e => obtain ⟨x, q⟩ := e; obtain ⟨h5, i, h6⟩ := h4; exact .inr ⟨x, q, i, rfl, h5, hl.but h6 hb⟩
 | ok v => obtain ⟨t, j⟩ := v; obtain ⟨rfl, h6, h7⟩ := h4; exact .inl ⟨j, rfl, h6, hl.but h7 hb⟩
theorem FP {lo : Nat} {w : World} {C : Nat} {A : Option Addr} {n c : Nat} {L : List Int} {p : Int} {G : Nat → Prop} {B : Int × Nat → Prop} {x : Int} {q : Nat} (h : iC lo w C A n c L p G B) (hx : x ≠ 0) (hG : ∀ j, G j → B (x, q)) :
    Calls Tryz.prog 44 #[.pointer (some ⟨C, 0, none⟩), .int .i64 x, .int .i64 q] w fun en w' => en = .returned (.tuple #[]) ∧ iC lo w' C A n c L p (fun _ => False) B ∧ aF w C w' := by
 rcases h with ⟨j, h1, h2, h3⟩ | ⟨y, r, i, h1, h2, h3⟩
 ·refine (dY w C A n c L j p x q h3.wk).mono ?_;rintro e w1 ⟨rfl, h4, h5⟩;exact ⟨rfl, .inr ⟨x, q, j, hG j h1, hx, h3.but h4 h5⟩, h5⟩
 refine (eK w C A n c L i y r x q h3.wk h2).mono ?_;rintro e w1 ⟨rfl, rfl⟩;exact ⟨rfl, .inr ⟨y, r, i, h1, h2, h3⟩, aF.refl _ _⟩
end Go.Proofs.YthnhbcohfoodlaaGreatDoor
