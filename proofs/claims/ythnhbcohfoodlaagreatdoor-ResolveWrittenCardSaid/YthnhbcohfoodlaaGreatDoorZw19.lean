/- Print + PrintTurn + PrintBytes -/
import Derived.Test.YthnhbcohfoodlaaGreatDoorZw5
import Derived.Test.YthnhbcohfoodlaaGreatDoorZw6
import Derived.Test.YthnhbcohfoodlaaGreatDoorZw18
import Derived.Test.YthnhbcohfoodlaaGreatDoorShelf
import Derived.Test.YthnhbcohfoodlaaGreatDoorZw7
import Derived.Test.YthnhbcohfoodlaaGreatDoorZw8
set_option maxHeartbeats 1600000
set_option maxRecDepth 100000
namespace Go.Proofs.YthnhbcohfoodlaaGreatDoor
open Go.RowKit Go.Shelf
def qB (k : Int × Int) : List UInt8 := dK k.1 ++ (if k.1 < k.2 then 45 :: dK k.2 else [])
def iQ (l : af) : List UInt8 := l.flatMap qB
def cW (l : af) : ByteArray × Int := if cm l = 0 then (⟨([91] ++ iQ l ++ [93]).toArray⟩, 0) else (⟨#[]⟩, cm l)
theorem Cx (l : af) : ∀ prev, gx prev l = 0 → ∀ k ∈ l, 0 ≤ k.1 ∧ k.1 ≤ k.2 ∧ k.2 ≤ 1114111 := by
 induction l with
 | nil => simp
 | cons z l ih =>
  intro prev h k hk;obtain ⟨a, b⟩ := z;rw [gx] at h;by_cases h1 : a < 0 ∨ 1114111 < b ∨ b < a
  ·rw [if_pos h1] at h; cases h
  rw [if_neg h1] at h;by_cases h2 : rM prev a = true
  ·rw [if_pos h2] at h; cases h
  rw [if_neg h2] at h;rcases List.mem_cons.1 hk with rfl | hk
  ·simp only; omega
  exact ih _ h k hk
theorem nw {l : af} (h : cm l = 0) : l.length ≤ 200 ∧ ∀ k ∈ l, 0 ≤ k.1 ∧ k.1 ≤ k.2 ∧ k.2 ≤ 1114111 := by
 unfold cm at h;by_cases h1 : 200 < l.length
 ·rw [if_pos h1] at h; cases h
 rw [if_neg h1] at h;exact ⟨by omega, Cx l none h⟩
theorem FV (k : Int × Int) (h : 0 ≤ k.1 ∧ k.1 ≤ k.2 ∧ k.2 ≤ 1114111) : (qB k).length ≤ 21 := by
 have h1 := lF k.1 (by omega) (by omega);have h2 := lF k.2 (by omega) (by omega);unfold qB;rw [List.length_append];split
 ·rw [List.length_cons]; omega
 rw [List.length_nil]; omega
theorem qM (l : af) (h : ∀ k ∈ l, 0 ≤ k.1 ∧ k.1 ≤ k.2 ∧ k.2 ≤ 1114111) : (iQ l).length ≤ 21 * l.length := by
 induction l with
 | nil => simp [iQ]
 | cons z l ih =>
  have h1 := FV z (h z (by simp));have h2 := ih (fun k hk => h k (by simp [hk]));simp only [iQ, List.flatMap_cons, List.length_append, List.length_cons] at h2 ⊢;omega
theorem DQ (l : af) (k : Nat) (z : Int × Int) (h : l[k]? = some z) : iQ (l.take (k + 1)) = iQ (l.take k) ++ qB z := by
 obtain ⟨hk, rfl⟩ := List.getElem?_eq_some_iff.1 h;rw [List.take_succ_eq_append_getElem hk];simp only [iQ, List.flatMap_append, List.flatMap_cons, List.flatMap_nil, List.append_nil]
theorem dV (a : List UInt8) : (Lib.byteCells a).length = a.length := by simp [Lib.byteCells]
theorem jb (L : List UInt8) : Lib.strCells ⟨L.toArray⟩ = Lib.byteCells L := by simp [Lib.strCells, Lib.byteCells]
theorem tQ (L : List UInt8) : (⟨L.toArray⟩ : ByteArray).size = L.length := by simp [ByteArray.size]
theorem zP {B b : Nat} {bs : List Value} {W W' : World} (h : NH B b bs W) (hb : Below W.heap.size W W') : NH B b bs W' := by
 have hlt := h.lt;obtain ⟨hB, v, hv, hown, hne⟩ := h;exact ⟨hB, v, (hb.block b hlt).trans hv, hown.kept (row := none) ⟨hb.os, hb.tape, hb.output, hb.size, fun k hk _ => hb.block k hk⟩ (Classical.em _), hne⟩
def PX (w : World) (b : Nat) (l : af) (n : Nat) (i : Value) (wr : World) : Prop :=
  ∃ k : Nat, k ≤ n ∧ i = .int .i64 k ∧ NH w.heap.size b (Lib.byteCells ([91] ++ iQ (l.take k))) wr ∧ Below w.heap.size w wr
theorem lU (A : Option Addr) (n c : Nat) (l : af) (w : World) (hn : n ≤ 9223372036854775807) (hl : kW w w.heap.size A n l) (hd : w.cell? ⟨5, 15, none⟩ = some (.int .u8 4)) (hlt : 5 < w.heap.size) :
    Calls Tryz.prog 15 #[.slice A n c] w fun e w' => e = .returned (.tuple #[.string (cW l).1, .int .i64 (cW l).2]) ∧ Below w.heap.size w w' := by
 have bY := Lib.hid hl.len;have HL := Lib.hid hl;clear hl;have HD := Lib.hid hd;have B6 := Lib.hid hlt;clear hd hlt;by_cases hw0 : cm l = 0
 ·obtain ⟨yd, hok⟩ := nw hw0;have hn2 : n ≤ 200 := (by rw [← bY.out]; exact yd);have HP := Lib.hid (show cW l = (⟨([91] ++ iQ l ++ [93]).toArray⟩, 0) by unfold cW; rw [if_pos hw0]);have JW := Lib.hid hok;have HW := Lib.hid hw0;clear hok hw0;go_enter Tryz.func15, Tryz.ntmps15;go_wp2_with fail;refine (iN A n c l w hn HL.out).mono ?_;rintro e w1 ⟨rfl, bt⟩;rw [HW.out];have ko := bt.size;have jR := Lib.hid (sD w1 w.heap.size ko);have cy := Lib.hid bt;go_wp2_with fail;refine (uK w.heap.size w1.heap.size [] 91 _ jR.out (by simp) (by simp; omega)).mono ?_;rintro e w2 ⟨rfl, LU, bn⟩;have UX := (cy.out.alloc ko _).trans bn;clear bt bn;generalize w1.heap.size = b at *;clear jR cy ko;go_wp2_with fail;go_loopw [16] (PX w b l n) (fun i _ => n - (intOf i).toNat);(case atStart => exact ⟨0, Nat.zero_le _, rfl, LU, UX⟩);obtain ⟨k, hk, rfl, hB, hb⟩ := hrel;have hz := hb.size;have Rc := qM (l.take k) (fun x hx => JW.out x (List.mem_of_mem_take hx));have htk : (l.take k).length ≤ k := List.length_take_le _ _;by_cases hkn : k < n
  ·obtain ⟨⟨x, y⟩, hx⟩ : ∃ z, l[k]? = some z := ⟨_, List.getElem?_eq_getElem (by rw [bY.out]; exact hkn)⟩;have hok := JW.out (x, y) (List.mem_of_getElem? hx);dsimp only at hok;obtain ⟨ho1, Fz, Ml⟩ := hok;obtain ⟨b2, off, rfl, eD, c0, c1⟩ := HL.out.at hx;have d0 := (hb.cell (p := ⟨b2, off + k * 2, none⟩) eD).trans c0;have d1 := (hb.cell (p := ⟨b2, off + k * 2 + 1, none⟩) eD).trans c1;have Mf := DQ l k _ hx;have ZH := hB.lt;have hq1 := lF x (by omega) (by omega);have xE := lF y (by omega) (by omega);have HS := Lib.hid Mf;have HX := Lib.hid hx;have HB := Lib.hid hB;clear Mf hx hB c0 c1;have aJ := hb.alloc hz (.cells #[.int .i32 x, .int .i32 y] 74);have Wp := (aJ.cell B6.out).trans HD.out;have dQ := Lib.hid (HB.out.alloc (.cells #[.int .i32 x, .int .i32 y] 74));have Kg := Lib.hid (au.new wr 74 #[.int .i32 x, .int .i32 y]);have Vm := Lib.hid Wp;clear Wp;go_wp2_with fail;refine (jE x (by omega) (by omega) _ Vm.out).mono ?_;rintro e w4 ⟨rfl, hb4⟩;have iW := Lib.hid (zP dQ.out hb4);have SK := Lib.hid (au.below Kg.out hb4 Kg.out.lt);have Pt := aJ.trans (hb4.mono (by simp; omega));have IE := Pt.size;clear hb4;go_wp2_with fail;refine (fy w.heap.size b _ _ _ (.inr iW.out) (by rw [dV, tQ]; simp; omega) IE).mono ?_;rintro e w5 ⟨rfl, Vj, eo, GJ⟩;have KD := Pt.trans eo;have WM := KD.size;have Sc : au w5 wr.heap.size 74 #[.int .i32 x, .int .i32 y] := GJ _ _ SK.out (by simp; omega) (by intro c fz h; injection h with _ h2; exact absurd h2 (by decide));have e0 : w5.cell? ⟨wr.heap.size, 0, none⟩ = some (.int .i32 x) := Sc.cell 0;have e1 : w5.cell? ⟨wr.heap.size, 1, none⟩ = some (.int .i32 y) := Sc.cell 1;rw [jb, ← byteCells_append] at Vj;have fR := Lib.hid Vj;clear Vj eo GJ;have Yt := (KD.cell B6.out).trans HD.out;by_cases hxy : x < y
   ·have aan := Lib.hid Sc;clear Sc;go_wp2_with fail;refine (jE y (by omega) (by omega) _ Yt).mono ?_;rintro e w6 ⟨rfl, fE⟩;have jM := Lib.hid (zP fR.out fE);have Qm := KD.trans (fE.mono WM);have S9 := Qm.size;clear fE;go_wp2_with fail;rw [show (⟨#[45]⟩ : ByteArray) ++ ⟨(dK y).toArray⟩ = ⟨(45 :: dK y).toArray⟩ from qZ [45] _];refine (fy w.heap.size b _ _ _ (.inr jM.out) (by rw [dV, tQ]; simp; omega) S9).mono ?_;rintro e w7 ⟨rfl, XV, iS, _⟩;rw [jb, ← byteCells_append] at XV;have U6 := Qm.trans iS;go_wp2_with fail;refine ⟨⟨k + 1, by omega, by go_num, ?_, U6⟩, by simp [intOf]; omega⟩;rw [HS.out, qB, if_pos hxy, ← List.append_assoc, ← List.append_assoc];exact XV
   go_wp2_with fail;refine ⟨⟨k + 1, by omega, by go_num, ?_, KD⟩, by simp [intOf]; omega⟩;have := fR.out;rw [HS.out, qB, if_neg (show ¬ x < y by omega), List.append_nil, ← List.append_assoc];exact this
  obtain rfl : k = n := (by omega);rw [List.take_of_length_le (by rw [bY.out]; omega)] at hB Rc;have HB := Lib.hid hB;clear hB;have SM := bY.out;go_wp2_with fail;refine (uK w.heap.size b _ 93 _ (.inr HB.out) (by rw [dV]; simp; omega) hz).mono ?_;rintro e w3 ⟨rfl, tW, aJ⟩;have RX := hb.trans aJ;have OJ := RX.size;rw [show [Value.int .u8 93] = Lib.byteCells [93] from rfl, ← byteCells_append] at tW;have dQ := Lib.hid tW;clear tW;go_wp2_with fail;refine (Tryz.Builder_String_any_f w.heap.size b _ w3 (.inr dQ.out) OJ).mono ?_;rintro e w4 ⟨rfl, _, hb4⟩;go_wp2_with fail;go_ret2;rw [HP.out];exact ⟨rfl, RX.trans hb4⟩
 have HP := Lib.hid (show cW l = (⟨#[]⟩, cm l) by unfold cW; rw [if_neg hw0]);go_enter Tryz.func15, Tryz.ntmps15;go_wp2_with fail;refine (iN A n c l w hn HL.out).mono ?_;rintro e w1 ⟨rfl, bt⟩;go_wp2_with fail;go_ret2;rw [HP.out];exact ⟨rfl, bt⟩
end Go.Proofs.YthnhbcohfoodlaaGreatDoor
namespace Go.Proofs.YthnhbcohfoodlaaGreatDoor
open Go.RowKit
def l9 (n : Nat) : List Int := (lM n).map fun b => (b.toNat : Int)
theorem tH (d : Nat) (h : d < 16) : ee ((oO d).toNat : Int) = true ∧ mY ((oO d).toNat : Int) = d := by
 have : d = 0 ∨ d = 1 ∨ d = 2 ∨ d = 3 ∨ d = 4 ∨ d = 5 ∨ d = 6 ∨ d = 7 ∨ d = 8 ∨ d = 9 ∨ d = 10 ∨ d = 11 ∨ d = 12 ∨ d = 13 ∨ d = 14 ∨ d = 15 := (by omega);rcases this with rfl | rfl | rfl | rfl | rfl | rfl | rfl | rfl | rfl | rfl | rfl | rfl | rfl | rfl | rfl | rfl <;> decide
theorem Dw (l : List Int) (d : Int) : cF (l ++ [d]) = 16 * cF l + mY d := by unfold cF; rw [List.foldl_append]; rfl
theorem Et (k : Nat) : ∀ n, n < 16 ^ (k + 1) → (∀ d ∈ l9 n, ee d = true) ∧ cF (l9 n) = n := by
 induction k with
 | zero =>
  intro n h;have h16 : n < 16 := (by simpa using h);obtain ⟨h1, h2⟩ := tH n h16;unfold l9;rw [eN h16];refine ⟨by simpa using h1, ?_⟩;simp [cF, h2]
 | succ k ih =>
  intro n h;by_cases h16 : n < 16
  ·obtain ⟨h1, h2⟩ := tH n h16;unfold l9;rw [eN h16];refine ⟨by simpa using h1, ?_⟩;simp [cF, h2]
  have hn : n / 16 < 16 ^ (k + 1) := by
   rw [Nat.pow_succ] at h;omega
  obtain ⟨i1, i2⟩ := ih (n / 16) hn;obtain ⟨h1, h2⟩ := tH (n % 16) (Nat.mod_lt _ (by decide));have e : l9 n = l9 (n / 16) ++ [((oO (n % 16)).toNat : Int)] := (by unfold l9; rw [mK (by omega)]; simp);rw [e, Dw, i2, h2];refine ⟨fun d hd => ?_, by omega⟩;rcases List.mem_append.1 hd with hd | hd;exact i1 d hd;rw [List.mem_singleton.1 hd]; exact h1
theorem JJ (n : Nat) : 1 ≤ (lM n).length := by
 rw [lM];split
 ·simp
 simp
theorem Hr {n : Nat} (h : n < 16777216) : 1 ≤ (l9 n).length ∧ (l9 n).length ≤ 6 := by
 unfold l9;rw [List.length_map];exact ⟨JJ n, nc 5 n (by simpa using h)⟩
def xB (r : Int) : Bool := jq r || (decide (126 < r) && aU r)
def bE (r : Int) : List Int := if xB r = true then [r] else [92, 117, 123] ++ l9 r.toNat ++ [125]
def rF (h : Int) : Prop := bT h = true ∨ h = 92
theorem vm {r : Int} (h : xB r = true) : bT r = true := by
 have hr : (48 ≤ r ∧ r ≤ 57) ∨ (65 ≤ r ∧ r ≤ 90) ∨ (97 ≤ r ∧ r ≤ 122) ∨ 126 < r := by
  unfold xB jq at h;simp only [Bool.or_eq_true, Bool.and_eq_true, decide_eq_true_eq] at h;omega
 unfold bT gC;simp [lN];omega
theorem kF (r : Int) : ∃ h t, bE r = h :: t ∧ rF h := by
 unfold bE;split
 ·rename_i hs; exact ⟨r, [], rfl, .inl (vm hs)⟩
 exact ⟨92, _, rfl, .inr rfl⟩
theorem nC {h : Int} (hh : rF h) : h ≠ 91 ∧ h ≠ 38 ∧ h ≠ 45 ∧ h ≠ 93 ∧ h ≠ 94 ∧ gC h = false ∧ h ≠ 58 := by
 rcases hh with hh | rfl
 ·refine ⟨?_, ?_, ?_, ?_, ?_, ?_, ?_⟩;(all_goals first | (rintro rfl; exact absurd hh (by decide)) | skip);unfold bT at hh;cases hb : gC h;rfl;rw [hb] at hh; simp at hh
 decide
theorem DD (pre m : List Int) (i : Nat) : pk (pre ++ m) (pre.length + i) = pk m i := by
 unfold pk;rw [List.getElem?_append_right (by omega), show pre.length + i - pre.length = i by omega]
theorem ig (pre m : List Int) : pk (pre ++ m) pre.length = pk m 0 := DD pre m 0
theorem pU (x : Int) (m : List Int) : pk (x :: m) 0 = x := rfl
theorem kf {p : Int → Bool} (h : List Int) (x : Int) (post : List Int) (h1 : ∀ d ∈ h, p d = true) (h2 : p x = false) : (h ++ x :: post).takeWhile p = h := by
 induction h with
 | nil => simp [h2]
 | cons a h ih =>
  rw [List.cons_append, List.takeWhile_cons, h1 a List.mem_cons_self];simp only [if_true];rw [ih (fun d hd => h1 d (List.mem_cons_of_mem _ hd))]
theorem Jf (pre h post : List Int) (hh : ∀ d ∈ h, ee d = true) (h1 : 1 ≤ h.length) (h6 : h.length ≤ 6) (hm : cF h ≤ 1114111) :
    jn (pre ++ (117 :: 123 :: (h ++ 125 :: post))) pre.length = .ok (cF h, pre.length + 2 + h.length + 1) := by
 have e2 : pre ++ (117 :: 123 :: (h ++ 125 :: post)) = (pre ++ [117, 123]) ++ (h ++ 125 :: post) := (by simp);have hl : (pre ++ [117, 123]).length = pre.length + 2 := (by simp);have hd : (pre ++ (117 :: 123 :: (h ++ 125 :: post))).drop (pre.length + 2) = h ++ 125 :: post := by
  rw [e2, ← hl, List.drop_append_of_le_length (Nat.le_refl _), List.drop_length, List.nil_append]
 have hr : aA ee (pre ++ (117 :: 123 :: (h ++ 125 :: post))) (pre.length + 2) = pre.length + 2 + h.length := by
  unfold aA;rw [hd, kf h 125 post hh (by decide)]
 have ht : aO (pre ++ (117 :: 123 :: (h ++ 125 :: post))) (pre.length + 2) (pre.length + 2 + h.length) = h := by
  rw [← hr, oZ, hd, kf h 125 post hh (by decide)]
 have n1 : aW (pre ++ (117 :: 123 :: (h ++ 125 :: post))) (pre.length + 1) 123 = .ok (pre.length + 2) := ir (by rw [DD]; rfl);have n2 : aW (pre ++ (117 :: 123 :: (h ++ 125 :: post))) (pre.length + 2 + h.length) 125 = .ok (pre.length + 2 + h.length + 1) := ir (by
  have e3 : pre ++ (117 :: 123 :: (h ++ 125 :: post)) = (pre ++ [117, 123] ++ h) ++ (125 :: post) := (by simp);have Gh : (pre ++ [117, 123] ++ h).length = pre.length + 2 + h.length := (by simp; omega);rw [e3, ← Gh, ig];rfl)
 unfold jn;rw [n1];simp only;rw [hr, if_neg (by omega), n2];simp only;rw [ht, if_neg (by omega)]
theorem nJ (pre post : List Int) (r : Int) (h0 : 0 ≤ r) (h1 : r ≤ 1114111) : cC (pre ++ (bE r ++ post)) pre.length = .ok (r, pre.length + (bE r).length) := by
 unfold bE;split
 ·rename_i hs;unfold cC;rw [ig, List.singleton_append, pU, if_pos (vm hs)];rfl
 obtain ⟨g1, g2⟩ := Et 5 r.toNat (by have : r.toNat < 16777216 := (by omega); simpa using this);obtain ⟨g3, g4⟩ := Hr (n := r.toNat) (by omega);have e : pre ++ ([92, 117, 123] ++ l9 r.toNat ++ [125] ++ post) = (pre ++ [92]) ++ (117 :: 123 :: (l9 r.toNat ++ 125 :: post)) := (by simp);have ZX : pk (pre ++ ([92, 117, 123] ++ l9 r.toNat ++ [125] ++ post)) pre.length = 92 := (by rw [ig]; rfl);have hp1 : pk (pre ++ ([92, 117, 123] ++ l9 r.toNat ++ [125] ++ post)) (pre.length + 1) = 117 := (by rw [DD]; rfl);have hx := Jf (pre ++ [92]) (l9 r.toNat) post g1 g3 g4 (by rw [g2]; omega);rw [← e, g2] at hx;unfold cC;rw [ZX, hp1, if_neg (by decide), if_neg (by decide), if_neg (by decide), if_neg (by decide), if_pos rfl];have hl : (pre ++ [92]).length = pre.length + 1 := (by simp);rw [hl] at hx;rw [hx];congr 2;omega;simp; omega
def dx (k : Int × Int) : List Int := bE k.1 ++ (if k.1 < k.2 then 45 :: bE k.2 else [])
theorem lV (k : Int × Int) : ∃ h t, dx k = h :: t ∧ rF h := by
 obtain ⟨h, t, e, hh⟩ := kF k.1;exact ⟨h, _, by unfold dx; rw [e]; rfl, hh⟩
theorem Ga (pre post : List Int) (k : Int × Int) (hk : 0 ≤ k.1 ∧ k.1 ≤ k.2 ∧ k.2 ≤ 1114111) (hp : pk post 0 ≠ 45) : gU (pre ++ (dx k ++ post)) pre.length = .ok (k, pre.length + (dx k).length) := by
 obtain ⟨x, y⟩ := k;simp only at hk;unfold dx;by_cases hlt : x < y
 ·simp only [hlt, if_true];have c1 := nJ pre ((45 :: bE y) ++ post) x (by omega) (by omega);have e : pre ++ (bE x ++ 45 :: bE y ++ post) = pre ++ (bE x ++ ((45 :: bE y) ++ post)) := (by simp);have e2 : pre ++ (bE x ++ ((45 :: bE y) ++ post)) = (pre ++ bE x ++ [45]) ++ (bE y ++ post) := (by simp);have e3 : pre ++ (bE x ++ ((45 :: bE y) ++ post)) = (pre ++ bE x) ++ (45 :: (bE y ++ post)) := (by simp);have c2 := nJ (pre ++ bE x ++ [45]) post y (by omega) (by omega);have l1 : (pre ++ bE x).length = pre.length + (bE x).length := (by simp);have l2 : (pre ++ bE x ++ [45]).length = pre.length + (bE x).length + 1 := (by simp; omega);have p1 : pk (pre ++ (bE x ++ ((45 :: bE y) ++ post))) (pre.length + (bE x).length) = 45 := (by rw [e3, ← l1, ig]; rfl);have p2 : pk (pre ++ (bE x ++ ((45 :: bE y) ++ post))) (pre.length + (bE x).length + 1) ≠ 91 := by
   rw [e2, ← l2, ig];obtain ⟨h, t, eq, hh⟩ := kF y;rw [eq, List.cons_append, pU];exact (nC hh).1
  rw [e];unfold gU;rw [c1];simp only;rw [if_pos ⟨p1, p2⟩];rw [← e2, l2] at c2;rw [c2];simp only;rw [if_neg (by omega)];congr 2;simp;omega
 obtain rfl : x = y := (by omega);simp only [hlt, if_false, List.append_nil];have c1 := nJ pre post x (by omega) (by omega);have l1 : (pre ++ bE x).length = pre.length + (bE x).length := (by simp);have p1 : pk (pre ++ (bE x ++ post)) (pre.length + (bE x).length) ≠ 45 := by
  rw [← List.append_assoc, ← l1, ig];exact hp
 unfold gU;rw [c1];simp only;rw [if_neg (fun h => p1 h.1)]
theorem xO {L : List Int} {i : Nat} (h : gC (pk L i) = false) : aN L i = i := cx (fun _ => h)
theorem K8 {cur : af} {x : Int × Int} (h : aF (cur ++ [x])) (hc : aF cur) (hx : aF [x]) : mq 124 cur [x] = (cur ++ [x], 0) := by
 rw [Ee (s := cur ++ [x]) (by decide) hc hx h.canon (fun r _ _ => by rw [dy]; simp [kH]), if_neg (by have := h.size; omega)]
theorem xY {a b : af} (h : aF (a ++ b)) : aF a ∧ aF b := by
 have hr := List.pairwise_append.1 h.rise;have hs := h.size;rw [List.length_append] at hs;exact ⟨⟨by omega, fun x hx => h.each x (List.mem_append_left _ hx), hr.1⟩, ⟨by omega, fun x hx => h.each x (List.mem_append_right _ hx), hr.2.1⟩⟩
theorem C6 (inner : Nat → jz af) (post : List Int) (l : af) : ∀ (pre : List Int) (f : Nat) (cur : af), l.length < f → aF (cur ++ l) →
    dF inner (pre ++ (l.flatMap dx ++ 93 :: post)) f pre.length cur = .ok (cur ++ l, pre.length + (l.flatMap dx).length + 1) := by
 induction l with
 | nil =>
  intro pre f cur hf _;obtain ⟨f, rfl⟩ : ∃ g, f = g + 1 := ⟨f - 1, by simp at hf; omega⟩;have hp : pk (pre ++ (([] : af).flatMap dx ++ 93 :: post)) pre.length = 93 := (by rw [ig]; rfl);have hs : aN (pre ++ (([] : af).flatMap dx ++ 93 :: post)) pre.length = pre.length := xO (by rw [hp]; decide);rw [uG (by rw [hs]; exact hp), hs];simp
 | cons k l ih =>
  intro pre f cur hf hr;obtain ⟨f, rfl⟩ : ∃ g, f = g + 1 := ⟨f - 1, by simp at hf; omega⟩;rw [List.length_cons] at hf;obtain ⟨h, t, eq, hh⟩ := lV k;obtain ⟨n1, n2, n3, n4, n5, n6, n7⟩ := nC hh;have e : pre ++ ((k :: l).flatMap dx ++ 93 :: post) = pre ++ (dx k ++ (l.flatMap dx ++ 93 :: post)) := (by rw [List.flatMap_cons, List.append_assoc]);have hp : pk (pre ++ (dx k ++ (l.flatMap dx ++ 93 :: post))) pre.length = h := (by rw [ig, eq]; rfl);have hs : aN (pre ++ (dx k ++ (l.flatMap dx ++ 93 :: post))) pre.length = pre.length := xO (by rw [hp]; exact n6);have hpost : pk (l.flatMap dx ++ 93 :: post) 0 ≠ 45 := by
   cases l with
   | nil => simp [pk]
   | cons k2 l =>
    obtain ⟨h2, t2, PY, J7⟩ := lV k2;rw [List.flatMap_cons, PY];simp only [List.cons_append, pU];exact (nC J7).2.2.1
  have hk := hr.each k (by simp);have PV := Ga pre (l.flatMap dx ++ 93 :: post) k hk hpost;have hpart : cU inner (pre ++ (dx k ++ (l.flatMap dx ++ 93 :: post))) pre.length = .ok ([k], pre.length + (dx k).length) := by
   unfold cU;rw [if_neg (fun x => n1 (by rw [← hp]; exact x.1)), if_neg (by rw [hp]; exact n1), if_neg (by rw [hp]; omega), PV]
  have iT : aF ((cur ++ [k]) ++ l) := (by rw [List.append_assoc]; exact hr);have hop : pQ (pk (pre ++ (dx k ++ (l.flatMap dx ++ 93 :: post))) pre.length) = 124 := (by rw [hp]; unfold pQ; rw [if_neg (by omega)]);have ho := K8 (xY iT).1 (xY hr).1 (xV hk);rw [e, gY (j := pre.length + (dx k).length) (s := [k]) (by rw [hs, hp]; exact n4) (by rw [hs]; exact hpart), hs, hop, ho];simp only [ne_eq, not_true_eq_false, if_false];have hi := ih (pre ++ dx k) f (cur ++ [k]) (by omega) iT;rw [List.length_append, List.append_assoc, List.append_assoc] at hi;rw [hi, List.flatMap_cons, List.length_append, List.singleton_append];congr 2;omega
def bO (l : af) : List Int := 91 :: (l.flatMap dx ++ [93])
theorem oq (l : af) : (bO l).length = (l.flatMap dx).length + 2 := by
 unfold bO;rw [List.length_cons, List.length_append];rfl
theorem vz (pre post : List Int) (l : af) (lv : Nat) (hr : aF l) : bu (pre ++ (bO l ++ post)) (lv + 1) pre.length = .ok (l, pre.length + (bO l).length) := by
 have e : pre ++ (bO l ++ post) = (pre ++ [91]) ++ (l.flatMap dx ++ 93 :: post) := (by simp [bO]);have hn : aW (pre ++ (bO l ++ post)) pre.length 91 = .ok (pre.length + 1) := ir (by rw [ig]; rfl);have hl : (pre ++ [91]).length = pre.length + 1 := (by simp);have kG : pk (pre ++ (bO l ++ post)) (pre.length + 1) ≠ 94 := by
  rw [e, ← hl, ig];cases l with
  | nil => simp [pk]
  | cons k2 l =>
   obtain ⟨h2, t2, PY, J7⟩ := lV k2;rw [List.flatMap_cons, PY];simp only [List.cons_append, pU];exact (nC J7).2.2.2.2.1
 have hlen : l.length < (pre ++ (bO l ++ post)).length + 1 := by
  have key : ∀ l : af, l.length ≤ (l.flatMap dx).length := by
   intro l;induction l with
   | nil => simp
   | cons k l ih =>
    obtain ⟨h2, t2, PY, _⟩ := lV k;rw [List.flatMap_cons, List.length_append, PY, List.length_cons, List.length_cons];omega
  have := key l;rw [List.length_append, List.length_append, oq];omega
 have hp := C6 (bu (pre ++ (bO l ++ post)) lv) post l (pre ++ [91]) ((pre ++ (bO l ++ post)).length + 1) [] hlen (by simpa using hr);rw [← e, hl, List.nil_append] at hp;rw [bu, hn];simp only;rw [if_neg kG, hp];simp only;rw [if_neg kG, oq];congr 2;omega
end Go.Proofs.YthnhbcohfoodlaaGreatDoor
namespace Go.Proofs.YthnhbcohfoodlaaGreatDoor
open Go.RowKit
theorem zJ {r : Int} (h0 : 0 ≤ r) (h1 : r < 128) : Lib.encodeRune r = [r.toNat.toUInt8] := by
 unfold Lib.encodeRune;rw [Lib.encodeRuneZ_one h0 (by omega)];rfl
theorem bV (a b : List Int) : bytesOf (a ++ b) = bytesOf a ++ bytesOf b := by simp [bytesOf]
theorem jf (l : List UInt8) (h : ∀ b ∈ l, b.toNat < 128) : bytesOf (l.map fun b => (b.toNat : Int)) = l := by
 induction l with
 | nil => rfl
 | cons b l ih =>
  have hb := h b List.mem_cons_self;rw [List.map_cons];show bytesOf ([(b.toNat : Int)] ++ l.map fun b => (b.toNat : Int)) = b :: l;rw [bV, ih (fun x hx => h x (List.mem_cons_of_mem _ hx))];have : bytesOf [(b.toNat : Int)] = [b] := by
   simp only [bytesOf, List.flatMap_cons, List.flatMap_nil, List.append_nil];rw [zJ (by omega) (by omega)];simp
  rw [this];rfl
theorem Jm (k : Nat) : ∀ n, n < 16 ^ (k + 1) → ∀ b ∈ lM n, b.toNat < 128 := by
 have hd : ∀ d, d < 16 → (oO d).toNat < 128 := by
  intro d h;have := jS (l := [((oO d).toNat : Int)]) (by simpa using (tH d h).1) ((oO d).toNat : Int) (by simp);omega
 induction k with
 | zero =>
  intro n h b hb;have h16 : n < 16 := (by simpa using h);rw [eN h16] at hb;rw [List.mem_singleton.1 hb];exact hd n h16
 | succ k ih =>
  intro n h b hb;by_cases h16 : n < 16
  ·rw [eN h16] at hb;rw [List.mem_singleton.1 hb];exact hd n h16
  rw [mK (by omega)] at hb;rcases List.mem_append.1 hb with hb | hb;exact ih (n / 16) (by rw [Nat.pow_succ] at h; omega) b hb;rw [List.mem_singleton.1 hb]; exact hd _ (Nat.mod_lt _ (by decide))
theorem vP (r : Int) : xB r = true ↔ (jq r = true ∨ (126 < r ∧ aU r = true)) := by
 unfold xB;simp only [Bool.or_eq_true, Bool.and_eq_true, decide_eq_true_eq]
theorem mV (r : Int) (h0 : 0 ≤ r) (h1 : r ≤ 1114111) : bytesOf (bE r) = dK r := by
 unfold bE dK;by_cases hs : xB r = true
 ·rw [if_pos hs, if_pos ((vP r).1 hs)];simp [bytesOf]
 rw [if_neg hs, if_neg (fun h => hs ((vP r).2 h))];have Oh : r.toNat < 16 ^ (5 + 1) := by
  have : r.toNat < 16777216 := (by omega);simpa using this
 have hl := Jm 5 r.toNat Oh;have e1 : ([92, 117, 123] : List Int) = ([92, 117, 123] : List UInt8).map fun b => (b.toNat : Int) := (by decide);have e2 : ([125] : List Int) = ([125] : List UInt8).map fun b => (b.toNat : Int) := (by decide);rw [bV, bV, e1, e2, l9, jf _ hl, jf _ (by decide), jf _ (by decide)]
theorem DB (k : Int × Int) (hk : 0 ≤ k.1 ∧ k.1 ≤ k.2 ∧ k.2 ≤ 1114111) : bytesOf (dx k) = qB k := by
 unfold dx qB;rw [bV, mV k.1 (by omega) (by omega)];congr 1;split
 ·show bytesOf ([45] ++ bE k.2) = _;rw [bV, mV k.2 (by omega) (by omega)];rfl
 rfl
theorem rU (l : af) (h : ∀ k ∈ l, 0 ≤ k.1 ∧ k.1 ≤ k.2 ∧ k.2 ≤ 1114111) : bytesOf (bO l) = [91] ++ iQ l ++ [93] := by
 have key : ∀ l : af, (∀ k ∈ l, 0 ≤ k.1 ∧ k.1 ≤ k.2 ∧ k.2 ≤ 1114111) → bytesOf (l.flatMap dx) = iQ l := by
  intro l;induction l with
  | nil => intro _; rfl
  | cons k l ih =>
   intro h;rw [List.flatMap_cons, bV, DB k (h k List.mem_cons_self), ih (fun x hx => h x (List.mem_cons_of_mem _ hx))];rfl
 show bytesOf ([91] ++ (l.flatMap dx ++ [93])) = _;rw [bV, bV, key l h];rfl
theorem lQ (r : Int) (h0 : 0 ≤ r) (h1 : r ≤ 1114111) : (bE r).all aU = true := by
 unfold bE;split
 ·rename_i hs;rcases (vP r).1 hs with h | h
  ·have := rR h;simp [this]
  simp [h.2]
 have Oh : r.toNat < 16 ^ (5 + 1) := by
  have : r.toNat < 16777216 := (by omega);simpa using this
 obtain ⟨g1, _⟩ := Et 5 r.toNat Oh;rw [List.all_append, List.all_append];have : (l9 r.toNat).all aU = true := by
  rw [List.all_eq_true];intro d hd;have := jS (l := l9 r.toNat) g1 d hd;simp [aU];omega
 rw [this];decide
theorem pR (l : af) (h : ∀ k ∈ l, 0 ≤ k.1 ∧ k.1 ≤ k.2 ∧ k.2 ≤ 1114111) : (bO l).all aU = true := by
 have key : ∀ l : af, (∀ k ∈ l, 0 ≤ k.1 ∧ k.1 ≤ k.2 ∧ k.2 ≤ 1114111) → (l.flatMap dx).all aU = true := by
  intro l;induction l with
  | nil => intro _; rfl
  | cons k l ih =>
   intro h;have hk := h k List.mem_cons_self;rw [List.flatMap_cons, List.all_append, ih (fun x hx => h x (List.mem_cons_of_mem _ hx)), Bool.and_true];unfold dx;rw [List.all_append, lQ k.1 (by omega) (by omega), Bool.true_and];split
   ·rw [List.all_cons, lQ k.2 (by omega) (by omega)];decide
   rfl
 unfold bO;rw [List.all_cons, List.all_append, key l h];decide
end Go.Proofs.YthnhbcohfoodlaaGreatDoor
