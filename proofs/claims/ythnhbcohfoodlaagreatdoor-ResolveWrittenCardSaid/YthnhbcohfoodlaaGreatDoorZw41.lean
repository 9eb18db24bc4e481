/- RdFr + CurClass + eH -/
import Derived.Test.YthnhbcohfoodlaaGreatDoorZw40
import Derived.Test.YthnhbcohfoodlaaGreatDoorZw13
import Derived.Test.YthnhbcohfoodlaaGreatDoorZw39
import Derived.Test.YthnhbcohfoodlaaGreatDoorZw31
set_option maxHeartbeats 6400000
set_option maxRecDepth 100000
namespace Go.Proofs.YthnhbcohfoodlaaGreatDoor
open Go.RowKit
def gH (w : World) (X : Nat → Prop) (a : ak) (cs : List Value) : Prop :=
  ∃ A n c, cs = [.int .i64 a.kind, .int .i32 a.rune, .slice A n c, .string a.name] ∧ fl w X 2 A n (ah a.set) ∧ n ≤ c ∧ n ≤ maxLen
theorem gH.keep {w w' : World} {X X' : Nat → Prop} (hk : ag w X w' X') (a : ak) (cs : List Value) (h : gH w X a cs) : gH w' X' a cs := by
 obtain ⟨A, n, c, e, h1, h2⟩ := h;exact ⟨A, n, c, e, h1.keep hk, h2⟩
theorem gH.one {w : World} {X : Nat → Prop} {a : ak} {cs : List Value} (h : gH w X a cs) : ∀ u ∈ cs, u.oneCell' = true := by
 obtain ⟨A, n, c, rfl, _⟩ := h;intro u hu;simp at hu;rcases hu with rfl | rfl | rfl | rfl <;> rfl
def uy (lo C : Nat) (v : Value) (b : Nat) : Prop := lo ≤ b ∧ b ≠ C ∧ v.ownBlock ≠ some b
def fT (lo C : Nat) (w : World) (v : Value) (l : List ak) : Prop := dc (gH w (uy lo C v)) 114 4 w lo v l
theorem Eu {w w' : World} {C base sz n : Nat} {e : TypeId} {v : Value} {xs : List Value} (h : w.ownsRow base e sz v n xs) (hb : bK w C w') (hC : C < base) : w'.ownsRow base e sz v n xs := by
 refine ⟨h.1, ?_⟩;rcases h.2 with h2 | ⟨g, cap, cur, hv, hg, hh, r⟩;exact .inl h2;exact .inr ⟨g, cap, cur, hv, hg, (hb.2.2.2.2 g (Array.getElem?_eq_some_iff.1 hh).1 (by omega)).trans hh, r⟩
theorem fT.but {lo C : Nat} {w w' : World} {v : Value} {l : List ak} (h : fT lo C w v l) (hb : bK w C w') (hC : C < lo) : fT lo C w' v l :=
  dc.kept (fun _ _ ho => Eu ho hb hC) (gH.keep (hb.keeps (fun _ h => h.2.1) (fun _ h _ => h))) h
theorem zh {lo C m sz : Nat} {e : TypeId} {v v' : Value} {ys : List Value} {w w2 : World} (ha : bg lo e sz v w m ys v' w2) : ag w (uy lo C v) w2 (uy lo C v') := by
 refine ag.app ha (fun b hb => hb.2.2) (fun b hb hl => ⟨hb.1, hb.2.1, ?_⟩);rcases ha.2.2 with e | e
 ·rw [e]; exact hb.2.2
 rw [e];intro h;injection h with h;omega
theorem fT.push {lo C : Nat} {w : World} {v : Value} {l : List ak} (h : fT lo C w v l) (a : ak) {cs : List Value} (ha : gH w (uy lo C v) a cs) (hcs : cs.length = 4) :
    ∃ ys, w.ownsRow lo 114 4 v l.length ys ∧ ∀ v' w', bg lo 114 4 v w (l.length + 1) (ys ++ cs) v' w' → fT lo C w' v' (l ++ [a]) := by
 obtain ⟨css, h1, h2, h3, h4⟩ := h;refine ⟨css.flatten, h4, fun v' w' aB => ?_⟩;have hk : ag w (uy lo C v) w' (uy lo C v') := zh aB;exact dc.push h1 h2 h3 (gH.keep hk) (ha.keep hk) hcs aB
def qc (x : Int) : List Value := [.int .i64 1, .int .i32 x, .slice none 0 0, .string ⟨#[]⟩]
theorem KW (rs : List Int) : (rs.map qc).flatten = gD rs := by unfold gD; rw [List.flatMap_def]; rfl
theorem zf (w : World) (X : Nat → Prop) (x : Int) : gH w X (j7 x) (qc x) := ⟨none, 0, 0, rfl, ⟨rfl, fun h => absurd h (by omega)⟩, Nat.le_refl _, Nat.zero_le _⟩
theorem fT.RG {lo C : Nat} {w : World} {v : Value} {l : List ak} (h : fT lo C w v l) (rs : List Int) :
    ∃ ys, w.ownsRow lo 114 4 v l.length ys ∧ ∀ v' w', bg lo 114 4 v w (l.length + rs.length) (ys ++ gD rs) v' w' → fT lo C w' v' (l ++ rs.map j7) := by
 obtain ⟨css, h1, h2, h3, h4⟩ := h;refine ⟨css.flatten, h4, fun v' w' aB => ?_⟩;have hk : ag w (uy lo C v) w' (uy lo C v') := zh aB;refine ⟨css ++ rs.map qc, by simp [h1], ?_, ?_, ?_⟩
 ·intro i a cs ha hc;rcases Nat.lt_or_ge i l.length with hi | hi
  ·rw [List.getElem?_append_left hi] at ha;rw [List.getElem?_append_left (by omega)] at hc;exact gH.keep hk a cs (h2 i a cs ha hc)
  rw [List.getElem?_append_right hi, List.getElem?_map] at ha;rw [List.getElem?_append_right (by omega), h1, List.getElem?_map] at hc;cases hx : rs[i - l.length]? with
  | none => rw [hx] at ha; cases ha
  | some x =>
   rw [hx] at ha hc;obtain rfl := Option.some.inj ha;obtain rfl := Option.some.inj hc;exact zf w' _ x
 ·intro cs hc;rcases List.mem_append.1 hc with hc | hc;exact h3 cs hc;obtain ⟨x, _, rfl⟩ := List.mem_map.1 hc;rfl
 have := aB.own;rw [List.flatten_append, KW, List.length_append, List.length_map];exact this
theorem fT.form {lo C : Nat} {w : World} {v : Value} {l : List ak} (h : fT lo C w v l) : ∃ A c, v = .slice A l.length c ∧ l.length ≤ c := dc.form h
theorem fT.nil (lo C : Nat) (w : World) : fT lo C w (.slice none 0 0) [] := dc.nil _ _
theorem fT.below {lo C : Nat} {w w' : World} {v : Value} {l : List ak} (h : fT lo C w v l) (hb : Below w.heap.size w w') : fT lo C w' v l :=
  dc.kept (fun _ _ ho => eX ho hb) (gH.keep (ag.any hb)) h
theorem fT.apart {lo C : Nat} {w : World} {v : Value} {l : List ak} (h : fT lo C w v l) {b : Nat} (hb : w.heap.size ≤ b) : v.ownBlock ≠ some b := by
 obtain ⟨css, h1, h2, h3, h4⟩ := h;intro e;have := (bM h4 e).2;omega
def PS (p : Int → Bool) (w : World) (C : Nat) (A : Option Addr) (n c : Nat) (L : List Int) (a r : Nat) (wr : World) : Prop :=
  ∃ j, a ≤ j ∧ j ≤ n ∧ r = aA p L j ∧ av wr C A n c L j ∧ bK w C wr
theorem Fl {L : List Int} {i r : Nat} (hr : aA bT L (i + 2) = r) (h : gz (aO L (i + 2) r) = none) : eP L i = .error (7, i + 2) := by subst hr; unfold eP; rw [h]
theorem Gs {L : List Int} {i r : Nat} {s : af} {e : Int × Nat} (hr : aA bT L (i + 2) = r) (h : gz (aO L (i + 2) r) = some s) (h2 : aW L r 58 = .error e) : eP L i = .error e := by subst hr; unfold eP; rw [h]; simp only; rw [h2]
theorem Fo {L : List Int} {i r j : Nat} {s : af} {e : Int × Nat} (hr : aA bT L (i + 2) = r) (h : gz (aO L (i + 2) r) = some s) (h2 : aW L r 58 = .ok j) (h3 : aW L j 93 = .error e) : eP L i = .error e := by subst hr; unfold eP; rw [h]; simp only; rw [h2]; simp only; rw [h3]
theorem JV {L : List Int} {i r j k : Nat} {s : af} (hr : aA bT L (i + 2) = r) (h : gz (aO L (i + 2) r) = some s) (h2 : aW L r 58 = .ok j) (h3 : aW L j 93 = .ok k) : eP L i = .ok (s, k) := by subst hr; unfold eP; rw [h]; simp only; rw [h2]; simp only; rw [h3]
theorem qV (l : List Int) (h : l.length ≤ 4611686018427387904) (h2 : l.length ≤ 100000) : (runesBytes l).size ≤ maxLen := by
 have := runesBytes_size_le l;simp only [maxLen];omega
theorem EP (w : World) (C : Nat) (A : Option Addr) (n c : Nat) (L : List Int) (i : Nat) (h : av w C A n c L i) (hL : gi L) (hi : i + 2 ≤ n) (hn : n ≤ 100000) :
    Calls Tryz.prog 78 #[.pointer (some ⟨C, 0, none⟩)] w (ew w C A n c L (eP L i)) := by
 have hs := h.size;have hlen := h.len;obtain ⟨b, off, rfl, _, _⟩ := h.at (by omega);have HL := Lib.hid hL;have c0 := h.ey.cell 0;have c1 := h.ey.cell 1;have f1 := h.ey.frozen 1;have hw1 : IntKind.i64.wrap ((i : Int) + 2) = (i : Int) + 2 := wrap_small _ (by omega) (by omega);have hm := h.move (j := i + 2) hi;have MT := bK.set w C 1 (.int .i64 ((i + 2 : Nat) : Int));rw [show (((i + 2 : Nat)) : Int) = (i : Int) + 2 by omega] at hm MT;have HM := Lib.hid hm;have cy := Lib.hid MT;obtain ⟨R, hR⟩ : ∃ R, eP L i = R := ⟨_, rfl⟩;rw [hR];have gG := Lib.hid hR;clear hL hm h MT hR;obtain ⟨r, hr⟩ : ∃ r, aA bT L (i + 2) = r := ⟨_, rfl⟩;have B4 := Lib.hid hr;have hi2 : ((i + 2 : Nat) : Int) = (i : Int) + 2 := (by omega);obtain ⟨a, ha⟩ : ∃ a, i + 2 = a := ⟨_, rfl⟩;have ZW : (i : Int) + 2 = (a : Int) := (by omega);have HA := Lib.hid ha;rw [ZW] at HM cy hw1;rw [ha] at HM;clear hr hi2;go_enter Tryz.func78, Tryz.ntmps78;go_wp2_with fail;go_loopw [17] (fun _ wr => PS bT w C (some ⟨b, off, none⟩) n c L a r wr) (fun _ wr => n - (match wr.cell? ⟨C, 1, none⟩ with | some (.int _ j) => j.toNat | _ => 0));(case atStart => exact ⟨a, Nat.le_refl _, HM.out.le, by rw [← B4.out, HA.out], HM.out, cy.out⟩);obtain ⟨j, haj, hj, hrun, rS, Ar⟩ := hrel;have HJ := Lib.hid rS;have HB := Lib.hid Ar;have HR := Lib.hid hrun;have fP := Lib.hid (fun (W : World) (h : av W C (some ⟨b, off, none⟩) n c L j) => cG W C (some ⟨b, off, none⟩) n c L j h);have sn := Lib.hid (rS.ey.cell 1);have Eg := Lib.hid (fun (W : World) => nM (pk L j) W (HL.out.pk j));clear rS Ar hrun;by_cases Ce : bT (pk L j) = true
 ·rw [Ce] at Eg;have hlt : j < L.length := bA (fun e => by rw [e] at Ce; exact absurd Ce (by decide));have LB : IntKind.i64.wrap ((j : Int) + 1) = (j : Int) + 1 := wrap_small _ (by omega) (by omega);go_wp2_with fail;refine (fP.out _ HJ.out).mono ?_;rintro e w2 ⟨rfl, jj, bn⟩;have qt := Lib.hid jj;have cE := Lib.hid (HB.out.trans bn);clear jj bn;go_wp2_with fail;refine (Eg.out _).mono ?_;rintro e w3 ⟨rfl, aJ⟩;have o8 := Lib.hid (qt.out.below aJ);have dQ := Lib.hid (cE.out.trans (bK.below C aJ));clear aJ;obtain ⟨d1, d2, d3, d4⟩ := o8.out.step (by omega);have yQ := Lib.hid d3;have iW := Lib.hid (dQ.out.trans d4);clear d3 d4;go_wp2_with fail;refine ⟨⟨j + 1, by omega, by omega, HR.out.trans (cZ hlt Ce), yQ.out, iW.out⟩, ?_⟩;have e1 : (w3.setCell ⟨C, 1, none⟩ (.int .i64 ((j : Int) + 1))).cell? ⟨C, 1, none⟩ = some (.int .i64 ((j + 1 : Nat) : Int)) := yQ.out.ey.cell 1;have e2 : wr.cell? ⟨C, 1, none⟩ = some (.int .i64 (j : Int)) := sn.out;rw [e1, e2];simp only [Int.toNat_natCast];omega
 rw [Bool.not_eq_true] at Ce;rw [Ce] at Eg;obtain rfl : r = j := HR.out.trans (cx (fun _ => Ce));clear HR;go_wp2_with fail;refine (fP.out _ HJ.out).mono ?_;rintro e w2 ⟨rfl, jj, bn⟩;have qt := Lib.hid jj;have cE := Lib.hid (HB.out.trans bn);clear jj bn;go_wp2_with fail;refine (Eg.out _).mono ?_;rintro e w3 ⟨rfl, aJ⟩;have o8 := Lib.hid (qt.out.below aJ);have dQ := Lib.hid (cE.out.trans (bK.below C aJ));have LG := Lib.hid (show Below w3.heap.size w3 w3.drew from (Below.refl _ _).drew);clear aJ;have d0 := o8.out.ey.cell 0;have d1 := o8.out.ey.cell 1;have tD := vN (o8.out.drewN 1) haj hj;have fW : (a : Int) ≤ (r : Int) := (by omega);have hk2 : (r : Int) ≤ (c : Int) := (by have := o8.out.cap; omega);have qI : (0 : Int) ≤ (a : Int) := (by omega);have hts : (runesBytes (aO L a r)).size ≤ maxLen := qV _ (by unfold aO; rw [List.length_take]; omega) (by unfold aO; rw [List.length_take]; omega);have Wd := Lib.hid (De (aO L a r));generalize runesBytes (aO L a r) = T at *;have Gn := Lib.hid (fun (W : World) => GA T W hts);clear hts;cases KL : gz (aO L a r) with
 | none =>
  have HT := Lib.hid (Wd.out.trans KL);have pZ := Lib.hid (show R = .error (7, i + 2) from gG.out.symm.trans (Fl B4.out (by rw [HA.out]; exact KL)));clear KL;go_upto_region 5 with fail;refine aR (S := (fun w' => w'.cell? ⟨C, 0, none⟩ = some (.slice (some ⟨b, off, none⟩) n c) ∧ w'.cell? ⟨C, 1, none⟩ = some (.int .i64 r) ∧ (convert 61 9 (.slice (if c = a then some ⟨b, off, none⟩ else some ⟨b, off + a, none⟩) (r - a) (c - a))).run Tryz.prog w' = .ok (.string T) w')) [3, 8, 10] (by kernel_rfl) ⟨d0, d1, tD⟩ (fun an => ?_);apply tp 0 28 rfl (by kernel_rfl) (fun _ _ _ h => h) (by rfl)
  ·intro wq _;go_simp;(try with_reducible rfl)
  (try simp only [zp, za, z0, zs]);apply tp 1 29 rfl (by kernel_rfl) (fun _ _ _ h => h) (by rfl)
  ·intro wq _;go_simp;(try with_reducible rfl)
  (try simp only [zp, za, z0, zs]);apply tp 2 30 rfl (by kernel_rfl) (fun _ _ _ h => h) (by rfl)
  ·intro wq _;go_simp;(try with_reducible rfl)
  (try simp only [zp, za, z0, zs]);apply tt 3 31 rfl (by kernel_rfl) (fun _ _ _ h => h) (by rfl) (by assumption)
  ·intro wq aX;(try dsimp only at aX);go_simp;(try with_reducible rfl)
  (try simp only [zp, za, z0, zs]);apply tp 4 32 rfl (by kernel_rfl) (fun _ _ _ h => h) (by rfl)
  ·intro wq _;go_simp;(try with_reducible rfl)
  (try simp only [zp, za, z0, zs]);apply tp 5 33 rfl (by kernel_rfl) (fun _ _ _ h => h) (by rfl)
  ·intro wq _;go_simp;(try with_reducible rfl)
  (try simp only [zp, za, z0, zs]);apply tp 6 34 rfl (by kernel_rfl) (fun _ _ _ h => h) (by rfl)
  ·intro wq _;go_simp;(try with_reducible rfl)
  (try simp only [zp, za, z0, zs]);apply tp 7 35 rfl (by kernel_rfl) (fun _ _ _ h => h) (by rfl)
  ·intro wq _;go_simp;(try with_reducible rfl)
  (try simp only [zp, za, z0, zs]);apply tt 8 36 rfl (by kernel_rfl) (fun _ _ _ h => h) (by rfl) (by assumption)
  ·intro wq aX;(try dsimp only at aX);go_simp;(try with_reducible rfl)
  (try simp only [zp, za, z0, zs]);apply tp 9 37 rfl (by kernel_rfl) (fun _ _ _ h => h) (by rfl)
  ·intro wq _;go_simp;(try with_reducible rfl)
  (try simp only [zp, za, z0, zs]);apply tt 10 38 rfl (by kernel_rfl) (fun _ _ _ h => h) (by rfl) (by assumption)
  ·intro wq aX;(try dsimp only at aX);go_simp;(try with_reducible rfl)
  (try simp only [zp, za, z0, zs]);refine aY (i := 11) (o := ⟨some 39, _, _, _, _, _⟩) (by kernel_rfl) rfl (by kernel_rfl) (fun K hK => ?_);go_simp;go_at_call 129;refine (Gn.out _).mono ?_;rintro e w6 Ny;unfold ny at Ny;rw [HT.out] at Ny;obtain ⟨rfl, fE⟩ := Ny;(try dsimp only);refine hK.out _ _ ?_;clear hK K;(try simp only [zp, za, z0, zs]);apply tp 12 27 rfl (by kernel_rfl) (fun _ _ _ h => h) (by rfl)
  ·intro wq _;go_simp;(try with_reducible rfl)
  (try simp only [zp, za, z0, zs]);apply tp 13 40 rfl (by kernel_rfl) (fun _ _ _ h => h) (by rfl)
  ·intro wq _;go_simp;(try with_reducible rfl)
  (try simp only [zp, za, z0, zs]);apply tp 14 41 rfl (by kernel_rfl) (fun _ _ _ h => h) (by rfl)
  ·intro wq _;go_simp;(try with_reducible rfl)
  (try simp only [zp, za, z0, zs]);apply tp 15 4 rfl (by kernel_rfl) (fun _ _ _ h => h) (by rfl)
  ·intro wq _;go_simp;(try with_reducible rfl)
  (try simp only [zp, za, z0, zs]);apply tp 16 5 rfl (by kernel_rfl) (fun _ _ _ h => h) (by rfl)
  ·intro wq _;go_simp;(try with_reducible rfl)
  (try simp only [zp, za, z0, zs]);refine cL (by kernel_rfl) ?_ _;generalize (if c = a then some ({ block := b, off := off } : Addr) else some { block := b, off := off + a }) = Z;have jM := Lib.hid (dQ.out.trans (bK.below C (LG.out.trans (Below.mono fE (Nat.le_refl _)))));have HF := Lib.hid (fun (W : World) => bX 7 a W);clear fE;go_simp;go_wp2_with fail;refine (HF.out _).mono ?_;rintro e w7 ⟨rfl, rfl⟩;go_wp2_with fail;rw [pZ.out, HA.out];exact ⟨rfl, rfl, jM.out⟩
 | some s =>
  have HT := Lib.hid (Wd.out.trans KL);have MV := Lib.hid (show gz (aO L (i + 2) r) = some s by rw [HA.out]; exact KL);clear KL;go_upto_region 5 with fail;refine aR (S := (fun w' => w'.cell? ⟨C, 0, none⟩ = some (.slice (some ⟨b, off, none⟩) n c) ∧ w'.cell? ⟨C, 1, none⟩ = some (.int .i64 r) ∧ (convert 61 9 (.slice (if c = a then some ⟨b, off, none⟩ else some ⟨b, off + a, none⟩) (r - a) (c - a))).run Tryz.prog w' = .ok (.string T) w')) [3, 8, 10] (by kernel_rfl) ⟨d0, d1, tD⟩ (fun an => ?_);apply tp 0 28 rfl (by kernel_rfl) (fun _ _ _ h => h) (by rfl)
  ·intro wq _;go_simp;(try with_reducible rfl)
  (try simp only [zp, za, z0, zs]);apply tp 1 29 rfl (by kernel_rfl) (fun _ _ _ h => h) (by rfl)
  ·intro wq _;go_simp;(try with_reducible rfl)
  (try simp only [zp, za, z0, zs]);apply tp 2 30 rfl (by kernel_rfl) (fun _ _ _ h => h) (by rfl)
  ·intro wq _;go_simp;(try with_reducible rfl)
  (try simp only [zp, za, z0, zs]);apply tt 3 31 rfl (by kernel_rfl) (fun _ _ _ h => h) (by rfl) (by assumption)
  ·intro wq aX;(try dsimp only at aX);go_simp;(try with_reducible rfl)
  (try simp only [zp, za, z0, zs]);apply tp 4 32 rfl (by kernel_rfl) (fun _ _ _ h => h) (by rfl)
  ·intro wq _;go_simp;(try with_reducible rfl)
  (try simp only [zp, za, z0, zs]);apply tp 5 33 rfl (by kernel_rfl) (fun _ _ _ h => h) (by rfl)
  ·intro wq _;go_simp;(try with_reducible rfl)
  (try simp only [zp, za, z0, zs]);apply tp 6 34 rfl (by kernel_rfl) (fun _ _ _ h => h) (by rfl)
  ·intro wq _;go_simp;(try with_reducible rfl)
  (try simp only [zp, za, z0, zs]);apply tp 7 35 rfl (by kernel_rfl) (fun _ _ _ h => h) (by rfl)
  ·intro wq _;go_simp;(try with_reducible rfl)
  (try simp only [zp, za, z0, zs]);apply tt 8 36 rfl (by kernel_rfl) (fun _ _ _ h => h) (by rfl) (by assumption)
  ·intro wq aX;(try dsimp only at aX);go_simp;(try with_reducible rfl)
  (try simp only [zp, za, z0, zs]);apply tp 9 37 rfl (by kernel_rfl) (fun _ _ _ h => h) (by rfl)
  ·intro wq _;go_simp;(try with_reducible rfl)
  (try simp only [zp, za, z0, zs]);apply tt 10 38 rfl (by kernel_rfl) (fun _ _ _ h => h) (by rfl) (by assumption)
  ·intro wq aX;(try dsimp only at aX);go_simp;(try with_reducible rfl)
  (try simp only [zp, za, z0, zs]);refine aY (i := 11) (o := ⟨some 39, _, _, _, _, _⟩) (by kernel_rfl) rfl (by kernel_rfl) (fun K hK => ?_);go_simp;go_at_call 129;refine (Gn.out _).mono ?_;rintro e w6 Ny;unfold ny at Ny;rw [HT.out] at Ny;obtain ⟨⟨A6, n6, c6, rfl, Oh, zO⟩, fE⟩ := Ny;(try dsimp only);refine hK.out _ _ ?_;clear hK K;(try simp only [zp, za, z0, zs]);apply tp 12 27 rfl (by kernel_rfl) (fun _ _ _ h => h) (by rfl)
  ·intro wq _;go_simp;(try with_reducible rfl)
  (try simp only [zp, za, z0, zs]);apply tp 13 40 rfl (by kernel_rfl) (fun _ _ _ h => h) (by rfl)
  ·intro wq _;go_simp;(try with_reducible rfl)
  (try simp only [zp, za, z0, zs]);apply tp 14 41 rfl (by kernel_rfl) (fun _ _ _ h => h) (by rfl)
  ·intro wq _;go_simp;(try with_reducible rfl)
  (try simp only [zp, za, z0, zs]);apply tp 15 4 rfl (by kernel_rfl) (fun _ _ _ h => h) (by rfl)
  ·intro wq _;go_simp;(try with_reducible rfl)
  (try simp only [zp, za, z0, zs]);apply tp 16 5 rfl (by kernel_rfl) (fun _ _ _ h => h) (by rfl)
  ·intro wq _;go_simp;(try with_reducible rfl)
  (try simp only [zp, za, z0, zs]);refine cL (by kernel_rfl) ?_ _;generalize (if c = a then some ({ block := b, off := off } : Addr) else some { block := b, off := off + a }) = Z;have Gt := Lib.hid ((o8.out.drewN 1).below fE);have jM := Lib.hid (dQ.out.trans (bK.below C (LG.out.trans (Below.mono fE (Nat.le_refl _)))));have ZJ := Lib.hid (Oh.lift (X' := fun b => b ≠ C ∧ w.heap.size ≤ b) (fun b h => ⟨fun e => by have := o8.out.ey.lt; have h2 : w3.heap.size ≤ b := h; omega, Nat.le_trans dQ.out.1 h⟩));clear fE Oh;have HN := Lib.hid (fc w6 C _ n c L r 58 Gt.out (by decide));go_simp;cases hn : aW L r 58 with
  | error e0 =>
   obtain ⟨x, p⟩ := e0;rw [hn] at HN;have pZ := Lib.hid (gG.out.symm.trans (Gs B4.out MV.out hn));clear hn;go_wp2_with fail;refine HN.out.mono ?_;rintro e w7 ⟨he, hb⟩;unfold aZ at he;subst he;have qC := Lib.hid (jM.out.trans hb);clear hb;go_wp2_with fail;rw [pZ.out];exact ⟨rfl, rfl, qC.out⟩
  | ok j2 =>
   rw [hn] at HN;have Cf := Lib.hid hn;clear hn;go_wp2_with fail;refine HN.out.mono ?_;rintro e w7 ⟨rfl, hc, hb⟩;have GI := Lib.hid hc;have qC := Lib.hid (jM.out.trans hb);have Zh := Lib.hid (ZJ.out.keep (hb.keeps (X' := fun b => b ≠ C ∧ w.heap.size ≤ b) (fun b h => h.1) (fun b h _ => h)));clear hb hc;have nL := Lib.hid (fc w7 C _ n c L j2 93 GI.out (by decide));cases hn : aW L j2 93 with
   | error e0 =>
    obtain ⟨x, p⟩ := e0;rw [hn] at nL;have pZ := Lib.hid (gG.out.symm.trans (Fo B4.out MV.out Cf.out hn));clear hn;go_wp2_with fail;refine nL.out.mono ?_;rintro e w8 ⟨he, hb⟩;unfold aZ at he;subst he;have Ep := Lib.hid (qC.out.trans hb);clear hb;go_wp2_with fail;rw [pZ.out];exact ⟨rfl, rfl, Ep.out⟩
   | ok k2 =>
    rw [hn] at nL;have pZ := Lib.hid (gG.out.symm.trans (JV B4.out MV.out Cf.out hn));clear hn;go_wp2_with fail;refine nL.out.mono ?_;rintro e w8 ⟨rfl, hc, hb⟩;have N7 := Lib.hid hc;have Ep := Lib.hid (qC.out.trans hb);have Vn := Lib.hid (Zh.out.keep (hb.keeps (X' := fun b => w.heap.size ≤ b) (fun b h => h.1) (fun b h _ => h.2)));clear hb hc;go_wp2_with fail;go_ret;rw [pZ.out];exact ⟨⟨A6, n6, c6, rfl, Vn.out, zO⟩, N7.out, Ep.out⟩
theorem av.apart {w : World} {C G : Nat} {A : Option Addr} {n c : Nat} {L : List Int} {i : Nat} {t : TypeId} {v : Value} (h : av w C A n c L i) (hG : au w G t #[v]) (hv : ∀ x, v ≠ .int .i32 x) : fl w (fun b => b ≠ C ∧ b ≠ G) 1 A n (runeCells L) := by
 refine ⟨h.row.1, fun hn => ?_⟩;obtain ⟨b, off, e, hb, hl, hc⟩ := h.row.2 hn;refine ⟨b, off, e, ⟨hb, fun he => ?_⟩, hl, hc⟩;subst he;have hlen := h.len;obtain ⟨x, hx⟩ : ∃ x, L[0]? = some x := ⟨_, List.getElem?_eq_getElem (by omega)⟩;have h1 := hc 0 (.int .i32 x) (by rw [lW, hx]; rfl);rw [hG.cell] at h1;rcases off with _ | off
 ·simp at h1;exact hv x h1
 simp at h1
theorem av.set {w : World} {C G : Nat} {A : Option Addr} {n c : Nat} {L : List Int} {i : Nat} {t : TypeId} {v : Value} (h : av w C A n c L i) (hG : au w G t #[v]) (hv : ∀ x, v ≠ .int .i32 x) (hne : C ≠ G) (u : Value) : av (w.setCell ⟨G, 0, none⟩ u) C A n c L i := by
 have hk : bK w G (w.setCell ⟨G, 0, none⟩ u) := bK.set _ _ _ _;exact ⟨h.ey.same (hk.2.2.2.2 C h.ey.lt hne), (h.apart hG hv).keep (hk.keeps (fun b h => h.2) (fun b h _ => h.1)), h.size, h.le, h.cap⟩
structure eH (w : World) (C P G : Nat) (A : Option Addr) (n c : Nat) (L : List Int) (j : Nat) (s : af) (wr : World) : Prop where
  cur : av wr C A n c L j
  box : au wr P 60 #[.pointer (some ⟨C, 0, none⟩)]
  set : ∃ B m d, au wr G 22 #[.slice B m d] ∧ fl wr (fun b => b ≠ C ∧ b ≠ P ∧ b ≠ G ∧ w.heap.size ≤ b) 2 B m (ah s) ∧ m ≤ d
  right : aF s
  but : bK w C wr
  lo : C < w.heap.size ∧ w.heap.size ≤ P ∧ w.heap.size ≤ G ∧ P ≠ G
section
variable {w wr w' : World} {C P G : Nat} {A : Option Addr} {n c : Nat} {L : List Int} {j : Nat} {s : af}
theorem eH.iG (h : eH w C P G A n c L j s wr) (hb : bK wr C w') {k : Nat} (hc : av w' C A n c L k) : eH w C P G A n c L k s w' := by
 obtain ⟨B, m, d, h1, h2, h3⟩ := h.set;obtain ⟨l1, l2, l3, l4⟩ := h.lo;exact ⟨hc, (hb.2.2.2.2 P h.box.lt (by omega)).trans h.box, ⟨B, m, d, (hb.2.2.2.2 G h1.lt (by omega)).trans h1, h2.keep (hb.keeps (fun b h => h.1) (fun b h _ => h)), h3⟩, h.right, h.but.trans hb, h.lo⟩
theorem eH.below (h : eH w C P G A n c L j s wr) (hb : Below wr.heap.size wr w') : eH w C P G A n c L j s w' := h.iG (bK.below C hb) (h.cur.below hb)
theorem eH.drew (h : eH w C P G A n c L j s wr) : eH w C P G A n c L j s wr.drew := h.below ((Below.refl _ _).drew)
theorem eH.put (h : eH w C P G A n c L j s wr) {t : af} {B : Option Addr} {m d : Nat} (hr : fl wr (fun b => b ≠ C ∧ b ≠ P ∧ b ≠ G ∧ w.heap.size ≤ b) 2 B m (ah t)) (hd : m ≤ d) (ht : aF t) :
    eH w C P G A n c L j t (wr.setCell ⟨G, 0, none⟩ (.slice B m d)) := by
 obtain ⟨B0, m0, d0, h1, h2, h3⟩ := h.set;obtain ⟨l1, l2, l3, l4⟩ := h.lo;have hk : bK wr G (wr.setCell ⟨G, 0, none⟩ (.slice B m d)) := bK.set _ _ _ _;refine ⟨h.cur.set h1 (fun x e => by cases e) (by omega) _, (hk.2.2.2.2 P h.box.lt l4).trans h.box, ⟨B, m, d, h1.put 0 _, hr.keep (hk.keeps (fun b h => h.2.2.1) (fun b h _ => h)), hd⟩, ht, ?_, h.lo⟩;exact ⟨Nat.le_trans h.but.1 hk.1, hk.2.1.trans h.but.2.1, hk.2.2.1.trans h.but.2.2.1, hk.2.2.2.1.trans h.but.2.2.2.1, fun b hb hne => (hk.2.2.2.2 b (Nat.lt_of_lt_of_le hb h.but.1) (by omega)).trans (h.but.2.2.2.2 b hb hne)⟩
end
theorem eH.arg {w wr : World} {C P G : Nat} {A : Option Addr} {n c : Nat} {L : List Int} {j : Nat} {s : af} (h : eH w C P G A n c L j s wr) {B : Option Addr} {m d : Nat} (hb : au wr G 22 #[.slice B m d]) : bW wr B m d s := by
 obtain ⟨B0, m0, d0, h1, h2, h3⟩ := h.set;have e : #[Value.slice B m d] = #[.slice B0 m0 d0] := by
  unfold au at hb h1;rw [hb] at h1;injection h1 with h1;injection h1
 have e2 : Value.slice B m d = .slice B0 m0 d0 := (by simpa using e);cases e2;exact ⟨h.right, h2.of, h3⟩
theorem eH.part {w wx w1 : World} {C P G : Nat} {A : Option Addr} {n c : Nat} {L : List Int} {j j2 : Nat} {s t : af} {e : Ending} (h : eH w C P G A n c L j s wx) (ht : aF t) (hp : ew wx C A n c L (.ok (t, j2)) e w1) :
    ∃ B m d, e = .returned (.slice B m d) ∧ eH w C P G A n c L j2 s w1 ∧ bW w1 B m d t ∧ bK wx C w1 := by
 obtain ⟨⟨B, m, d, rfl, hr, hd⟩, hc, hb⟩ := hp;exact ⟨B, m, d, rfl, h.iG hb hc, ⟨ht, hr.of, hd⟩, hb⟩
theorem eH.lA {w wx w1 : World} {C P G : Nat} {A : Option Addr} {n c : Nat} {L : List Int} {j : Nat} {s : af} {cs : Array Value} {t : TypeId} (h : eH w C P G A n c L j s wx) (hb : bK wx C w1) (hG : au wx G t cs) : au w1 G t cs :=
  (hb.2.2.2.2 G hG.lt (by have := h.lo; omega)).trans hG
theorem eH.fe {w wx : World} {C P G : Nat} {A : Option Addr} {n c : Nat} {L : List Int} {j : Nat} {s : af} (h : eH w C P G A n c L j s wx) : wx.cell? ⟨P, 0, none⟩ = some (.pointer (some ⟨C, 0, none⟩)) := h.box.cell 0
theorem eH.op {w w1 w2 : World} {C P G : Nat} {A : Option Addr} {n c : Nat} {L : List Int} {j : Nat} {s : af} {r : af × Int} {e : Ending} (h : eH w C P G A n c L j s w1) (hp : bS w1 r e w2) :
    ∃ B m d, e = .returned (.tuple #[.slice B m d, .int .i64 r.2]) ∧ eH w C P G A n c L j s w2 ∧ fl w2 (fun b => b ≠ C ∧ b ≠ P ∧ b ≠ G ∧ w.heap.size ≤ b) 2 B m (ah r.1) ∧ m ≤ d ∧ Below w1.heap.size w1 w2 := by
 obtain ⟨B, m, d, rfl, h1, _, h2, h3⟩ := hp;refine ⟨B, m, d, rfl, h.below h3, h1.lift (fun b hb => ?_), h2, h3⟩;obtain ⟨B0, m0, d0, g1, _⟩ := h.set;have l1 := h.cur.ey.lt;have l2 := h.box.lt;have l3 := g1.lt;have l4 := h.but.1;exact ⟨by omega, by omega, by omega, by omega⟩
theorem nr (B : Option Addr) (m d P G : Nat) (v : Value) (w : World) (hG : au w G 22 #[v]) :
    Calls Tryz.prog 76 (#[.slice B m d, .int .i64 0] ++ #[.pointer (some ⟨P, 0, none⟩), .pointer (some ⟨G, 0, none⟩)]) w fun e w' => e = .returned (.tuple #[]) ∧ w' = w.setCell ⟨G, 0, none⟩ (.slice B m d) := by
 have c0 := hG.cell 0;have f0 := hG.frozen 0;clear hG;go_enter Tryz.func76, Tryz.ntmps76;go_wp2_with fail;go_end0;exact ⟨rfl, rfl⟩
theorem lG (B : Option Addr) (m d C P G : Nat) (A : Option Addr) (n c : Nat) (L : List Int) (j : Nat) (x : Int) (w : World) (hx : x ≠ 0) (hP : au w P 60 #[.pointer (some ⟨C, 0, none⟩)]) (hC : av w C A n c L j) :
    Calls Tryz.prog 76 (#[.slice B m d, .int .i64 x] ++ #[.pointer (some ⟨P, 0, none⟩), .pointer (some ⟨G, 0, none⟩)]) w fun e w' => e = aZ x j ∧ w' = w := by
 have c0 := hP.cell 0;have d0 := hC.ey.cell 1;have hx2 : (x != 0) = true := (by simp; exact hx);have HF := Lib.hid (fun (W : World) => bX x j W);clear hP hC hx;go_enter Tryz.func76, Tryz.ntmps76;go_wp2_with fail;refine (HF.out _).mono ?_;rintro e w3 ⟨rfl, rfl⟩;go_wp2_with fail;exact ⟨rfl, rfl, rfl⟩
end Go.Proofs.YthnhbcohfoodlaaGreatDoor
