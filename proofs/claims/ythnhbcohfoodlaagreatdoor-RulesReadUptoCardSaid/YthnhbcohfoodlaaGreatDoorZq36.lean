/- RefSetM -/
import Derived.Test.YthnhbcohfoodlaaGreatDoorZq24
import Derived.Test.YthnhbcohfoodlaaGreatDoorZq9
import Derived.Test.YthnhbcohfoodlaaGreatDoorZq8
import Derived.Test.YthnhbcohfoodlaaGreatDoorZq32
import Derived.Test.YthnhbcohfoodlaaGreatDoorZq33
import Derived.Test.YthnhbcohfoodlaaGreatDoorZq28
import Derived.Test.YthnhbcohfoodlaaGreatDoorZq25
import Derived.Test.YthnhbcohfoodlaaGreatDoorZq35
set_option maxHeartbeats 25600000
set_option maxRecDepth 100000
namespace Go.Proofs.YthnhbcohfoodlaaGreatDoor
open Go.RowKit
theorem aO.at {w : World} {C : Nat} {A : Option Addr} {n c : Nat} {L : List Int} {i e p : Int} (h : aO w C A n c L i e p) (h0 : 0 < n) :
    ∃ b off, A = some ⟨b, off, none⟩ ∧ b < w.heap.size ∧ ∀ j x, L[j]? = some x → w.cell? ⟨b, off + j, none⟩ = some (.int .i32 x) := by
 obtain ⟨b, off, e, _, hb, hc⟩ := h.row.2 h0;exact ⟨b, off, e, hb, fun j x hx => hc j _ (by rw [bO, hx]; rfl)⟩
theorem Gk {w : World} {C : Nat} {b off n c : Nat} {L : List Int} {k e p : Int} (h : aO w C (some ⟨b, off, none⟩) n c L k e p) {i j : Nat} (hij : i ≤ j) (hj : j ≤ n) :
    (convert 61 9 (.slice (if c = i then some ⟨b, off, none⟩ else some ⟨b, off + i, none⟩) (j - i) (c - i))).run Tryz.prog w = .ok (.string (runesBytes (ay L i j))) w := by
 have hlen := h.len;have hcap := h.cap;by_cases hn : 0 < n
 ·obtain ⟨b', off', e, _, hc⟩ := h.at hn;cases e;have key : ∀ (o : Nat), o = off + i ∨ j - i = 0 → (convert 61 9 (.slice (some ⟨b, o, none⟩) (j - i) (c - i))).run Tryz.prog w = .ok (.string (runesBytes (ay L i j))) w := by
   intro o ho;rcases ho with rfl | ho
   ·have := run_convert_runes (P := Tryz.prog) w 61 9 21 ⟨b, off + i, none⟩ (j - i) (c - i) (ay L i j) (by unfold ay; rw [List.length_take, List.length_drop]; omega) Tryz.underlying61 Tryz.underlying21 Tryz.underlying9 (fun q hq => by
     rw [rN, Nat.add_assoc];unfold ay at hq ⊢;rw [List.length_take, List.length_drop] at hq;refine hc (i + q) _ ?_;rw [List.getD_eq_getElem?_getD, List.getElem?_take_of_lt (by omega), List.getElem?_drop];rw [List.getElem?_eq_getElem (by omega)];rfl)
    rw [show (ay L i j).take (j - i) = ay L i j from List.take_of_length_le (by unfold ay; rw [List.length_take]; omega)] at this;exact this
   have := run_convert_runes (P := Tryz.prog) w 61 9 21 ⟨b, o, none⟩ (j - i) (c - i) [] (by rw [ho]; simp) Tryz.underlying61 Tryz.underlying21 Tryz.underlying9 (fun q hq => by simp at hq);rw [show ([] : List Int).take (j - i) = ay L i j by unfold ay; rw [ho]; simp] at this;exact this
  split;exact key _ (.inr (by omega));exact key _ (.inl rfl)
 have := run_convert_runes (P := Tryz.prog) w 61 9 21 (if c = i then ⟨b, off, none⟩ else ⟨b, off + i, none⟩) (j - i) (c - i) [] (by rw [show j - i = 0 by omega]; simp) Tryz.underlying61 Tryz.underlying21 Tryz.underlying9 (fun q hq => by simp at hq);have e : (if c = i then some (⟨b, off, none⟩ : Addr) else some ⟨b, off + i, none⟩) = some (if c = i then (⟨b, off, none⟩ : Addr) else ⟨b, off + i, none⟩) := (by split <;> rfl);rw [show ([] : List Int).take (j - i) = ay L i j by unfold ay; rw [show j - i = 0 by omega]; simp] at this;rw [e];exact this
theorem BM {L : List Int} {i : Nat} {e : Int × Nat} (h : aH L i 91 = .error e) : aR L 0 i = .error e := by
 unfold aH at h;split at h
 ·cases h
 rename_i hn;injection h with h;rw [aR, if_neg hn, h]
theorem yW {L : List Int} {i : Nat} {r x : Int} {q : Nat} (h : aH L i r = .error (x, q)) : x ≠ 0 := by
 unfold aH at h;split at h
 ·cases h
 injection h with h;injection h with h1 h2;omega
theorem aO.dn {w : World} {C : Nat} {A : Option Addr} {n c : Nat} {L : List Int} {i e p : Int} (h : aO w C A n c L i e p) (k : Nat) : aO (w.drewN k) C A n c L i e p ∧ aF w C (w.drewN k) := ⟨h.drewN k, aF.drewN w C k⟩
theorem z8 (w : World) (C : Nat) (A : Option Addr) (n c : Nat) (L : List Int) (i k : Nat) (p : Int) (h : aO w C A n c L i 0 p) (hi : i ≤ n) (hk : k ≤ 1) :
    Calls Tryz.prog 61 #[.pointer (some ⟨C, 0, none⟩), .int .i64 k] w fun e w' => e = .returned (.int .i32 (pk L (i + k))) ∧ aO w' C A n c L i 0 p ∧ aF w C w' := by
 refine (qS w C A n c L i k p h hi (by omega)).mono ?_;rintro e w1 ⟨rfl, m, rfl⟩;exact ⟨rfl, h.drewN m, aF.drewN w C m⟩
theorem di.Dd {w w' : World} {C sz n : Nat} {A : Option Addr} {xs : List Value} (h : di w (fun b => C < b) sz A n xs) (hb : aF w C w') : di w' (fun b => C < b) sz A n xs := h.keep (hb.keeps (fun b (h : C < b) => by omega) (fun b h _ => h))
theorem fO.done {w wr : World} {C P G : Nat} {A : Option Addr} {n c : Nat} {L : List Int} {i e q p : Int} {s : ag} (h : fO w C P G A n c L i e q s wr) {B : Option Addr} {m d : Nat} (hG : wr.cell? ⟨G, 0, none⟩ = some (.slice B m d)) {r : fH ag}
    (hm : match r with | .ok (t, j) => s = t ∧ j ≤ n ∧ aO wr C A n c L (j : Nat) 0 p | .error (x, q) => x ≠ 0 ∧ ∃ i, aO wr C A n c L i x q) : nK w C A n c L p r (.returned (.slice B m d)) wr := by
 obtain ⟨B0, m0, d0, h1, h2, h3⟩ := h.set;rw [h1.cell 0] at hG;have e2 : Value.slice B0 m0 d0 = .slice B m d := (by simpa using hG);cases e2;exact ⟨⟨_, _, _, s, rfl, h2.lift (fun b hb => hb.2.2.2), h3, h.right, hm⟩, h.but⟩
theorem xI (dd : Nat) (w : World) (C : Nat) (A : Option Addr) (n c : Nat) (L : List Int) (i : Nat) (p : Int) (hd : 0 + dd = 21) (h : aO w C A n c L i 0 p) (hi : i ≤ n) :
    Calls Tryz.prog 42 #[.pointer (some ⟨C, 0, none⟩), .int .i64 dd] w (nK w C A n c L p (aR L 0 i)) := by
  have N7 : decide ((20 : Int) < (dd : Int)) = true := decide_eq_true (by omega)
  have ud := Lib.hid (h.keep ((Below.refl w.heap.size w).alloc (Nat.le_refl _) (.cells #[.pointer (some ⟨C, 0, none⟩)] 70)))
  have gA := Lib.hid (aF.below C ((Below.refl w.heap.size w).alloc (Nat.le_refl _) (.cells #[.pointer (some ⟨C, 0, none⟩)] 70)))
  have kz := Lib.hid (aM.new w 70 #[.pointer (some ⟨C, 0, none⟩)])
  have iZ := Lib.hid h.lt
  have Fa : ∀ (fn : Fn) (first cap : Array Value) (w : World), (Instr.makeFunc fn first cap).run Tryz.prog w = .ok (.func fn first cap) w := fun _ _ _ _ => rfl
  have p0 := kz.out.cell 0
  have fA := Lib.hid (z8 _ C A n c L i 0 p ud.out hi (Nat.zero_le _))
  obtain ⟨R, hR⟩ : ∃ R, aR L 0 i = R := ⟨_, rfl⟩
  rw [hR]
  have iM := Lib.hid hR
  clear h hR
  -- the end in a yT state, from Must on
  by_cases eU : pk L i = 91
  · have cF := Lib.hid (show R = .error (4, i) by rw [← iM.out, aR, if_pos eU])
    have tK := Lib.hid (show Calls Tryz.prog 61 #[.pointer (some ⟨C, 0, none⟩), .int .i64 0] (w.alloc (.cells #[.pointer (some ⟨C, 0, none⟩)] 70)) fun e w' => e = .returned (.int .i32 91) ∧ aO w' C A n c L i 0 p ∧ aF (w.alloc (.cells #[.pointer (some ⟨C, 0, none⟩)] 70)) C w' by have := fA.out; rwa [show pk L (i + 0) = 91 from eU] at this)
    clear eU fA
    go_enter Tryz.func42, Tryz.ntmps42
    go_wp2_with fail
    refine tK.out.mono ?_
    rintro e w0 ⟨rfl, hc0, hb0⟩
    have pN := Lib.hid ((hb0.2.2.2.2 w.heap.size kz.out.lt (by have := iZ.out; omega)).trans kz.out)
    have b8 := Lib.hid (gA.out.trans hb0)
    clear ud
    have ud := Lib.hid hc0
    clear p0 hc0 hb0 kz gA tK
    have p0 := (show aM w0 w.heap.size 70 #[.pointer (some ⟨C, 0, none⟩)] from pN.out).cell 0
    have k1 := ud.out.c1
    go_upto_region 2 with fail
    refine aD (S := (fun w' => w'.cell? ⟨w.heap.size, 0, none⟩ = some (.pointer (some ⟨C, 0, none⟩)) ∧ w'.cell? ⟨C, 1, none⟩ = some (.int .i64 i))) [0, 1, 4] (by kernel_rfl) ⟨p0, k1⟩ (fun bf => ?_)
    refine ai (i := 0) (oi := ⟨some 21, _, _, _, _, _⟩) (v := ?_) rfl (by kernel_rfl) (by kernel_rfl) (by kernel_rfl) (by kernel_rfl) (by kernel_rfl) (fun _ _ _ h => h) (Or.inl ⟨by rfl, ?_⟩) (by assumption) ?_
    rotate_left 1
    · intro wq bS
      (try dsimp only at bS)
      go_simp
      try with_reducible rfl
    try simp only [Act.put, List.setIfInBounds_toArray, List.set_cons_zero, List.set_cons_succ]
    refine ai (i := 1) (oi := ⟨some 22, _, _, _, _, _⟩) (v := ?_) rfl (by kernel_rfl) (by kernel_rfl) (by kernel_rfl) (by kernel_rfl) (by kernel_rfl) (fun _ _ _ h => h) (Or.inl ⟨by rfl, ?_⟩) (by assumption) ?_
    rotate_left 1
    · intro wq bS
      (try dsimp only at bS)
      go_simp
      try with_reducible rfl
    try simp only [Act.put, List.setIfInBounds_toArray, List.set_cons_zero, List.set_cons_succ]
    refine aa (i := 2) (oi := ⟨some 23, _, _, _, _, _⟩) (v := ?_) rfl (by kernel_rfl) (by kernel_rfl) (by kernel_rfl) (fun _ _ _ h => h) (Or.inl ⟨by rfl, ?_⟩) ?_
    rotate_left 1
    · intro wq _
      go_simp
      try with_reducible rfl
    try simp only [Act.put, List.setIfInBounds_toArray, List.set_cons_zero, List.set_cons_succ]
    refine aa (i := 3) (oi := ⟨some 24, _, _, _, _, _⟩) (v := ?_) rfl (by kernel_rfl) (by kernel_rfl) (by kernel_rfl) (fun _ _ _ h => h) (Or.inl ⟨by rfl, ?_⟩) ?_
    rotate_left 1
    · intro wq _
      go_simp
      try with_reducible rfl
    try simp only [Act.put, List.setIfInBounds_toArray, List.set_cons_zero, List.set_cons_succ]
    refine ai (i := 4) (oi := ⟨some 25, _, _, _, _, _⟩) (v := ?_) rfl (by kernel_rfl) (by kernel_rfl) (by kernel_rfl) (by kernel_rfl) (by kernel_rfl) (fun _ _ _ h => h) (Or.inl ⟨by rfl, ?_⟩) (by assumption) ?_
    rotate_left 1
    · intro wq bS
      (try dsimp only at bS)
      go_simp
      try with_reducible rfl
    try simp only [Act.put, List.setIfInBounds_toArray, List.set_cons_zero, List.set_cons_succ]
    refine az (i := 5) (o := ⟨some 26, _, _, _, _, _⟩) (by kernel_rfl) rfl (by kernel_rfl) (fun K hK => ?_)
    go_simp
    go_at_call 44
    refine (dY _ C A n c L i p 4 i (ud.out.drewN 1)).mono ?_
    rintro e w1 ⟨rfl, dh, aT⟩
    try dsimp only
    refine hK.out _ _ ?_
    clear hK K
    try simp only [Act.put, List.setIfInBounds_toArray, List.set_cons_zero, List.set_cons_succ]
    refine aN (by kernel_rfl) ?_ _
    have eH := Lib.hid dh
    have hdb := (aF.drewN w0 C 1).trans aT
    have nT := Lib.hid (show aM w1 w.heap.size 70 #[.pointer (some ⟨C, 0, none⟩)] from (hdb.2.2.2.2 w.heap.size (show aM w0 w.heap.size 70 #[.pointer (some ⟨C, 0, none⟩)] from pN.out).lt (by have := iZ.out; omega)).trans pN.out)
    have cS := Lib.hid (b8.out.trans hdb)
    clear dh aT hdb p0 k1
    have p0 := nT.out.cell 0
    go_simp
    go_wp2_with fail
    refine (eJ _ C A n c L i 4 i 91 eH.out (by decide) (by decide)).mono ?_
    rintro e w2 ⟨rfl, dQ, aU⟩
    have fV := Lib.hid dQ
    have kV := Lib.hid (show aM w2 w.heap.size 70 #[.pointer (some ⟨C, 0, none⟩)] from (aU.2.2.2.2 w.heap.size nT.out.lt (by have := iZ.out; omega)).trans nT.out)
    have bV := Lib.hid (cS.out.trans aU)
    clear dQ aU p0
    have p0 := kV.out.cell 0
    go_wp2_with fail
    refine (eY _ C A n c L i 4 i 0 fV.out (by decide)).mono ?_
    rintro e w3 ⟨rfl, eC, bN⟩
    have eL := Lib.hid (eC.keep ((Below.refl w3.heap.size w3).alloc (Nat.le_refl _) (.cells #[.slice none 0 0] 22)))
    have CX := Lib.hid (show aM w3 w.heap.size 70 #[.pointer (some ⟨C, 0, none⟩)] from (bN.2.2.2.2 w.heap.size kV.out.lt (by have := iZ.out; omega)).trans kV.out)
    have cG := Lib.hid (bV.out.trans (bN.trans (aF.below C ((Below.refl w3.heap.size w3).alloc (Nat.le_refl _) (.cells #[.slice none 0 0] 22)))))
    have Ik := Lib.hid (aM.new w3 22 #[.slice none 0 0])
    clear eC bN p0
    have p0 := (CX.out.alloc (.cells #[.slice none 0 0] 22)).cell 0
    have g0 := Ik.out.cell 0
    go_wp2_with fail
    go_loopw [8] (fun _ wr => wr = w3.alloc (.cells #[.slice none 0 0] 22)) (fun _ _ => 0)
    case atStart => rfl
    case round =>
      subst hrel
      go_wp2_with fail
      refine (bE _ C A n c L i 4 i eL.out (by decide)).mono ?_
      rintro e w5 ⟨rfl, kP⟩
      subst kP
      go_wp2_with fail
      go_ret
      rw [cF.out]
      exact ⟨⟨none, 0, 0, [], rfl, ⟨rfl, fun h => absurd h (by omega)⟩, Nat.le_refl _, dR, by decide, _, eL.out⟩, cG.out⟩
  · have LS : (pk L i == 91) = false := by rw [beq_eq_false_iff_ne]; exact eU
    have CY := Lib.hid (show aH L i 91 = .error (2, i) by unfold aH; rw [if_neg eU])
    have cF := Lib.hid (show R = .error (2, i) from iM.out.symm.trans (BM CY.out))
    clear eU
    go_enter Tryz.func42, Tryz.ntmps42
    go_wp2_with fail
    refine fA.out.mono ?_
    rintro e w1 ⟨rfl, dh, aT⟩
    have eH := Lib.hid dh
    have nT := Lib.hid (show aM w1 w.heap.size 70 #[.pointer (some ⟨C, 0, none⟩)] from (aT.2.2.2.2 w.heap.size kz.out.lt (by have := iZ.out; omega)).trans kz.out)
    have cS := Lib.hid (gA.out.trans aT)
    have nV := Lib.hid (show Calls Tryz.prog 63 #[.pointer (some ⟨C, 0, none⟩), .int .i32 91] w1 fun en w' => en = .returned (.tuple #[]) ∧ RI w1 C A n c L p (.error (2, i)) w' by have := jI w1 C A n c L i p 91 dh hi (by decide); rwa [CY.out] at this)
    clear dh aT p0
    have p0 := nT.out.cell 0
    go_wp2_with fail
    refine nV.out.mono ?_
    rintro e w2 ⟨rfl, ⟨_, i2, dQ⟩, aU⟩
    have fV := Lib.hid dQ
    have kV := Lib.hid (show aM w2 w.heap.size 70 #[.pointer (some ⟨C, 0, none⟩)] from (aU.2.2.2.2 w.heap.size nT.out.lt (by have := iZ.out; omega)).trans nT.out)
    have bV := Lib.hid (cS.out.trans aU)
    clear dQ aU p0
    have p0 := kV.out.cell 0
    go_wp2_with fail
    refine (eY _ C A n c L i2 2 i 0 fV.out (by decide)).mono ?_
    rintro e w3 ⟨rfl, eC, bN⟩
    have eL := Lib.hid (eC.keep ((Below.refl w3.heap.size w3).alloc (Nat.le_refl _) (.cells #[.slice none 0 0] 22)))
    have CX := Lib.hid (show aM w3 w.heap.size 70 #[.pointer (some ⟨C, 0, none⟩)] from (bN.2.2.2.2 w.heap.size kV.out.lt (by have := iZ.out; omega)).trans kV.out)
    have cG := Lib.hid (bV.out.trans (bN.trans (aF.below C ((Below.refl w3.heap.size w3).alloc (Nat.le_refl _) (.cells #[.slice none 0 0] 22)))))
    have Ik := Lib.hid (aM.new w3 22 #[.slice none 0 0])
    clear eC bN p0
    have p0 := (CX.out.alloc (.cells #[.slice none 0 0] 22)).cell 0
    have g0 := Ik.out.cell 0
    go_wp2_with fail
    go_loopw [8] (fun _ wr => wr = w3.alloc (.cells #[.slice none 0 0] 22)) (fun _ _ => 0)
    case atStart => rfl
    case round =>
      subst hrel
      go_wp2_with fail
      refine (bE _ C A n c L i2 2 i eL.out (by decide)).mono ?_
      rintro e w5 ⟨rfl, kP⟩
      subst kP
      go_wp2_with fail
      go_ret
      rw [cF.out]
      exact ⟨⟨none, 0, 0, [], rfl, ⟨rfl, fun h => absurd h (by omega)⟩, Nat.le_refl _, dR, by decide, _, eL.out⟩, cG.out⟩
theorem zy (lv : Nat) (dd : Nat) (w : World) (C : Nat) (A : Option Addr) (n c : Nat) (L : List Int) (i : Nat) (p : Int) (x : Int) (q : Nat) (hnd : aH L i 91 = .error (x, q)) (hd : lv + 1 + dd = 21) (h : aO w C A n c L i 0 p) (hi : i ≤ n) :
    Calls Tryz.prog 42 #[.pointer (some ⟨C, 0, none⟩), .int .i64 dd] w (nK w C A n c L p (aR L (lv + 1) i)) := by
 have N7 : decide ((20 : Int) < (dd : Int)) = false := decide_eq_false (by omega);have Fa : ∀ (fn : Fn) (first cap : Array Value) (w : World), (Instr.makeFunc fn first cap).run Tryz.prog w = .ok (.func fn first cap) w := fun _ _ _ _ => rfl;have ud := Lib.hid (h.keep ((Below.refl w.heap.size w).alloc (Nat.le_refl _) (.cells #[.pointer (some ⟨C, 0, none⟩)] 70)));have gA := Lib.hid (aF.below C ((Below.refl w.heap.size w).alloc (Nat.le_refl _) (.cells #[.pointer (some ⟨C, 0, none⟩)] 70)));have kz := Lib.hid (aM.new w 70 #[.pointer (some ⟨C, 0, none⟩)]);have iZ := Lib.hid h.lt;obtain ⟨R, hR⟩ : ∃ R, aR L (lv + 1) i = R := ⟨_, rfl⟩;rw [hR];have iM := Lib.hid hR;clear hR h;have nV := Lib.hid (jI _ C A n c L i p 91 ud.out hi (by decide));rw [hnd] at nV;have cF := Lib.hid (iM.out.symm.trans (Ax hnd));have IJ := Lib.hid (yW hnd);clear hnd;go_enter Tryz.func42, Tryz.ntmps42;have p0 := kz.out.cell 0;go_wp2_with fail;refine nV.out.mono ?_;rintro e w2 ⟨rfl, ⟨_, i2, dQ⟩, aU⟩;have fV := Lib.hid dQ;have kV := Lib.hid (show aM w2 w.heap.size 70 #[.pointer (some ⟨C, 0, none⟩)] from (aU.2.2.2.2 w.heap.size kz.out.lt (by have := iZ.out; omega)).trans kz.out);have bV := Lib.hid (gA.out.trans aU);clear dQ aU p0;have p0 := kV.out.cell 0;go_wp2_with fail;refine (eY _ C A n c L i2 x q 0 fV.out IJ.out).mono ?_;rintro e w3 ⟨rfl, eC, bN⟩;have eL := Lib.hid (eC.keep ((Below.refl w3.heap.size w3).alloc (Nat.le_refl _) (.cells #[.slice none 0 0] 22)));have CX := Lib.hid (show aM w3 w.heap.size 70 #[.pointer (some ⟨C, 0, none⟩)] from (bN.2.2.2.2 w.heap.size kV.out.lt (by have := iZ.out; omega)).trans kV.out)
 have cG := Lib.hid (bV.out.trans (bN.trans (aF.below C ((Below.refl w3.heap.size w3).alloc (Nat.le_refl _) (.cells #[.slice none 0 0] 22)))));have Ik := Lib.hid (aM.new w3 22 #[.slice none 0 0]);clear eC bN p0;have p0 := (CX.out.alloc (.cells #[.slice none 0 0] 22)).cell 0;have g0 := Ik.out.cell 0;go_wp2_with fail;go_loopw [8] (fun _ wr => wr = w3.alloc (.cells #[.slice none 0 0] 22)) (fun _ _ => 0);(case atStart => rfl);subst hrel;go_wp2_with fail;refine (bE _ C A n c L i2 x q eL.out IJ.out).mono ?_;rintro e w5 ⟨rfl, kP⟩;subst kP;go_wp2_with fail;go_ret;rw [cF.out];exact ⟨⟨none, 0, 0, [], rfl, ⟨rfl, fun h => absurd h (by omega)⟩, Nat.le_refl _, dR, IJ.out, _, eL.out⟩, cG.out⟩
theorem Em (lv : Nat) : ∀ (dd : Nat) (w : World) (C : Nat) (A : Option Addr) (n c : Nat) (L : List Int) (i : Nat) (p : Int), lv + dd = 21 → 1 ≤ dd → aO w C A n c L i 0 p → i ≤ n → cA L → n ≤ 100000 →
    Calls Tryz.prog 42 #[.pointer (some ⟨C, 0, none⟩), .int .i64 dd] w (nK w C A n c L p (aR L lv i)) := by
 induction lv with
 | zero =>
  intro dd w C A n c L i p hd _ h hi _ _;exact xI dd w C A n c L i p hd h hi
 | succ lv ih =>
  intro dd w C A n c L i p hd yS h hi hL hn;have hs := h.size;have hlen := h.len;have HL := Lib.hid hL;have hdc : ((dd + 1 : Nat) : Int) = (dd : Int) + 1 := (by omega);have Ky := Lib.hid (fun (W : World) (k : Nat) (hk : k ≤ n) (hc : aO W C A n c L k 0 p) => show Calls Tryz.prog 42 #[.pointer (some ⟨C, 0, none⟩), .int .i64 ((dd : Int) + 1)] W (nK W C A n c L p (aR L lv k)) by have := ih (dd + 1) W C A n c L k p (by omega) (by omega) hc hk hL hn; rwa [hdc] at this);have N8 : IntKind.i64.wrap ((dd : Int) + 1) = (dd : Int) + 1 := wrap_small _ (by omega) (by omega);clear hdc;have fA := Lib.hid (fun (W : World) (k : Nat) (h : aO W C A n c L k 0 p) (hk : k ≤ n) => show Calls Tryz.prog 61 #[.pointer (some ⟨C, 0, none⟩), .int .i64 0] W fun e w' => e = .returned (.int .i32 (pk L k)) ∧ aO w' C A n c L k 0 p ∧ aF W C w' from z8 W C A n c L k 0 p h hk (Nat.zero_le _));have tK := Lib.hid (fun (W : World) (k : Nat) (h : aO W C A n c L k 0 p) (hk : k ≤ n) => show Calls Tryz.prog 61 #[.pointer (some ⟨C, 0, none⟩), .int .i64 1] W fun e w' => e = .returned (.int .i32 (pk L (k + 1))) ∧ aO w' C A n c L k 0 p ∧ aF W C w' from z8 W C A n c L k 1 p h hk (Nat.le_refl _));have N7 : decide ((20 : Int) < (dd : Int)) = false := decide_eq_false (by omega);have Fa : ∀ (fn : Fn) (first cap : Array Value) (w : World), (Instr.makeFunc fn first cap).run Tryz.prog w = .ok (.func fn first cap) w := fun _ _ _ _ => rfl;have ud := Lib.hid (h.keep ((Below.refl w.heap.size w).alloc (Nat.le_refl _) (.cells #[.pointer (some ⟨C, 0, none⟩)] 70)));have gA := Lib.hid (aF.below C ((Below.refl w.heap.size w).alloc (Nat.le_refl _) (.cells #[.pointer (some ⟨C, 0, none⟩)] 70)));have kz := Lib.hid (aM.new w 70 #[.pointer (some ⟨C, 0, none⟩)]);have iZ := Lib.hid h.lt
  obtain ⟨R, hR⟩ : ∃ R, aR L (lv + 1) i = R := ⟨_, rfl⟩;rw [hR];have iM := Lib.hid hR;have HH := Lib.hid h;clear h hL ih;cases hnd0 : aH L i 91 with
  | error e0 =>
   obtain ⟨x, q⟩ := e0;rw [← hR];exact zy lv dd w C A n c L i p x q hnd0 hd HH.out hi
  | ok a0 =>
  clear HH hR;have nV := Lib.hid (jI _ C A n c L i p 91 ud.out hi (by decide));cases hnd : aH L i 91 with
  | error e0 => rw [hnd] at hnd0; cases hnd0
  | ok a =>
   rw [hnd] at nV;have um := Lib.hid hnd;have ha : a = i + 1 := (dX hnd).1;clear hnd;obtain ⟨ra, tX⟩ : ∃ ra, pk L a = ra := ⟨_, rfl⟩;have E0 := Lib.hid tX;obtain ⟨st, hst⟩ : ∃ st, (if pk L a = 94 then a + 1 else a) = st := ⟨_, rfl⟩;obtain ⟨Rp, Gi⟩ : ∃ Rp, cH (aR L lv) L (L.length + 1) st [] = Rp := ⟨_, rfl⟩;have PB := Lib.hid Gi;have fm := Lib.hid (fun (e : Int × Nat) (he : Rp = .error e) => show R = .error e from iM.out.symm.trans (AM um.out (by rw [hst, Gi]; exact he)));have rE := Lib.hid (fun (s : ag) (k : Nat) (he : Rp = .ok (s, k)) => show R = if ra = 94 then (if (gS 94 s []).2 ≠ 0 then .error ((gS 94 s []).2, k) else .ok ((gS 94 s []).1, k)) else .ok (s, k) by have := iM.out.symm.trans (DX um.out (by rw [hst, Gi]; exact he)); rw [tX] at this; exact this);rw [tX] at hst;clear Gi ha;go_enter Tryz.func42, Tryz.ntmps42;have p0 := kz.out.cell 0;go_wp2_with fail;refine nV.out.mono ?_;rintro e w1 ⟨rfl, ⟨Jk, dh⟩, aT⟩;have eH := Lib.hid dh;have b8 := Lib.hid (gA.out.trans aT);have pN := Lib.hid (show aM w1 w.heap.size 70 #[.pointer (some ⟨C, 0, none⟩)] from (aT.2.2.2.2 w.heap.size kz.out.lt (by have := iZ.out; omega)).trans kz.out);clear dh aT p0;have Rf := Lib.hid (show Calls Tryz.prog 61 #[.pointer (some ⟨C, 0, none⟩), .int .i64 0] w1 fun e w' => e = .returned (.int .i32 ra) ∧ aO w' C A n c L a 0 p ∧ aF w1 C w' by have := fA.out w1 a eH.out Jk; rwa [tX] at this);have p0 := pN.out.cell 0;go_wp2_with fail;refine Rf.out.mono ?_;rintro e w2 ⟨rfl, dQ, aU⟩;have fV := Lib.hid dQ;have cS := Lib.hid (b8.out.trans aU);have nT := Lib.hid (show aM w2 w.heap.size 70 #[.pointer (some ⟨C, 0, none⟩)] from (aU.2.2.2.2 w.heap.size pN.out.lt (by have := iZ.out; omega)).trans pN.out);clear dQ aU p0;have p0 := nT.out.cell 0;have k2 := fV.out.c1
   have f2 := fV.out.fz 1;have hw1 : IntKind.i64.wrap ((a : Int) + 1) = (a : Int) + 1 := wrap_small _ (by omega) (by omega);go_upto_if 32 with fail;go_cut [] (fun wx => st ≤ n ∧ aO wx C A n c L st 0 p ∧ aF w C wx ∧ aM wx w.heap.size 70 #[.pointer (some ⟨C, 0, none⟩)]);case first =>
    by_cases gR : ra = 94
    ·subst gR;rw [if_pos rfl] at hst;subst hst;have hlt : a < n := (by rw [← hlen]; exact aS (by omega));obtain ⟨d1, d2, d3, d4⟩ := fV.out.step;have eL := Lib.hid (show aO (w2.setCell ⟨C, 1, none⟩ (.int .i64 ((a : Int) + 1))) C A n c L ((a + 1 : Nat) : Int) 0 p by rw [show ((a + 1 : Nat) : Int) = (a : Int) + 1 by omega]; exact d3);have bV := Lib.hid (cS.out.trans d4);have kV := Lib.hid (show aM (w2.setCell ⟨C, 1, none⟩ (.int .i64 ((a : Int) + 1))) w.heap.size 70 #[.pointer (some ⟨C, 0, none⟩)] from (d4.2.2.2.2 w.heap.size nT.out.lt (by have := iZ.out; omega)).trans nT.out);clear d3 d4 tX;go_wp2_with fail;go_meet;exact ⟨hlt, eL.out, bV.out, kV.out⟩
    rw [if_neg gR] at hst;have hq : (ra == 94) = false := (by simp; exact gR);subst hst;clear tX;go_wp2_with fail;go_meet;exact ⟨Jk, fV.out, cS.out, nT.out⟩
   obtain ⟨wz, NU⟩ : ∃ wz, wz = wc := ⟨_, rfl⟩;subst NU;obtain ⟨OE, vZ, hbc, Fh⟩ := hcut;have KD := Lib.hid (show fO w C w.heap.size wz.heap.size A n c L st 0 p [] (wz.alloc (.cells #[.slice none 0 0] 22)) from by
    have hb := (Below.refl wz.heap.size wz).alloc (Nat.le_refl _) (.cells #[.slice none 0 0] 22);exact ⟨vZ.keep hb, aM.alloc Fh _, ⟨none, 0, 0, aM.new _ _ _, ⟨rfl, fun h => absurd h (by omega)⟩, Nat.le_refl _⟩, dR, hbc.trans (aF.below C hb), iZ.out, Nat.le_refl _, hbc.1, by have := Fh.lt; omega⟩)
   have p1 := KD.out.p0;clear vZ hbc Fh p0 fV cS nT eH b8 pN ud gA kz nV Rf hst tX k2 f2 hw1;go_wp2_with fail;go_loopw [8] (fun _ wr => DR w C w.heap.size wz.heap.size A n c L p (aR L lv) Rp wr) (fun _ wr => zm C n wr);(case atStart => exact ⟨st, 0, p, [], KD.out, .inl ⟨rfl, rfl, L.length + 1, st, rfl, OE, by omega, PB.out.symm⟩⟩);obtain ⟨i0, e, q, s, hfr, s9⟩ := hrel;have p2 := hfr.p0;obtain ⟨Bn, mn, dn, g2, Uf, SA⟩ := hfr.now;have CP := Lib.hid SA;have HX := Lib.hid hfr;clear hfr SA;rcases s9 with ⟨rfl, rfl, f0, j, rfl, hjn, EY, bz⟩ | ⟨he, y, rfl, bz⟩
   ·obtain ⟨f, rfl⟩ : ∃ f, f0 = f + 1 := ⟨f0 - 1, by omega⟩;have iz := Lib.hid bz;have gT := Lib.hid (zm.good HX.out.wk);obtain ⟨k, hk⟩ : ∃ k, aG L j = k := ⟨_, rfl⟩;have HK := Lib.hid hk;have hkn : k ≤ n := (by rw [← hk, ← hlen]; exact (dA (by omega)).2);have yM : j ≤ k := (by rw [← hk]; exact cL L j);obtain ⟨r, hr⟩ : ∃ r, pk L k = r := ⟨_, rfl⟩;have Dw := Lib.hid hr;have qw := Lib.hid (fun (t : ag) (j2 : Nat) (h : bZ (aR L lv) L (aG L j) = .ok (t, j2)) => show k < j2 ∧ aK t by rw [hk] at h; exact sM (iQ HL.out.ok lv) HL.out.ok h);have O8 : r ≠ -1 → k < n := fun h => (by rw [← hlen]; exact aS (by rw [hr]; exact h));clear bz;go_wp2_with fail;refine (cJ _ C A n c L j q HX.out.wk).mono ?_;rintro e w3 ⟨rfl, jy⟩;subst jy;go_wp2_with fail;refine (l7 _ C A n c L j q HX.out.wk hjn).mono ?_;rintro e w4 ⟨rfl, gB, eR⟩;rw [hk] at gB;have N3 := Lib.hid (HX.out.bJ eR gB);clear gB eR p2 g2 Uf hk CP;have p2 := N3.out.p0;go_wp2_with fail;refine (fA.out _ k N3.out.wk hkn).mono ?_;rintro e w5 ⟨rfl, eV, cr⟩;have qF := Lib.hid (N3.out.bJ cr eV);clear eV cr p2 N3 HX;rw [hr];clear hr;have p2 := qF.out.p0;have T' : IntKind.i64.wrap ((k : Int) + 1) = (k : Int) + 1 := wrap_small _ (by omega) (by omega);have QW : IntKind.i64.wrap ((k : Int) + 2) = (k : Int) + 2 := wrap_small _ (by omega) (by omega);obtain ⟨s1, s2, s3, s4⟩ := qF.out.wk.step;have mA := Lib.hid (show fO w C w.heap.size wz.heap.size A n c L ((k + 1 : Nat) : Int) 0 q s (w5.setCell ⟨C, 1, none⟩ (.int .i64 ((k : Int) + 1))) by rw [show ((k + 1 : Nat) : Int) = (k : Int) + 1 by omega]; exact qF.out.bJ s4 s3);clear s3 s4;by_cases vm : r = 93
    ·as_aux_lemma =>
      have hO := Lib.hid (show Rp = .ok (s, k + 1) by rw [iz.out, rK (by rw [HK.out, Dw.out]; exact vm), HK.out]);have cF := Lib.hid (rE.out s (k + 1) hO.out);have Kc := O8 (by omega);subst vm;have p6 := mA.out.p0;obtain ⟨B6, m6, d6, g6, U0, R6⟩ := mA.out.now;have CK := Lib.hid R6;clear R6;by_cases gR : ra = 94
      ·have Gj : (ra == 94) = true := (by simp; exact gR);have qj := cF.out;rw [if_pos gR] at qj;have ru := Lib.hid qj;have CR := Lib.hid (show aK (gS 94 s []).1 from fI 94 mA.out.right dR);clear qj gR;go_wp2_with fail;refine (cJ _ C A n c L ((k + 1 : Nat) : Int) q mA.out.wk).mono ?_;rintro e w7 ⟨rfl, yx⟩;subst yx;go_wp2_with fail;refine (AO 94 (by decide) w _ C w.heap.size wz.heap.size A none n c 0 0 L ((k + 1 : Nat) : Int) q s [] mA.out ⟨dR, ⟨rfl, fun h => absurd h (by omega)⟩, Nat.le_refl _⟩).mono ?_;rintro e w8 ⟨rfl, ⟨h0, wP⟩ | ⟨h0, wP⟩⟩
       ·rw [if_neg (fun h => h h0)] at ru;have gM := Lib.hid wP;obtain ⟨B8, m8, d8, g8, _, _⟩ := wP.now;clear h0 wP;go_wp2_with fail;go_ret;rw [ru.out];exact gM.out.done g8 ⟨rfl, by omega, gM.out.wk⟩
       rw [if_pos h0] at ru;have gM := Lib.hid wP;have H0 := Lib.hid h0;obtain ⟨B8, m8, d8, g8, _, _⟩ := wP.now;clear h0 wP;go_wp2_with fail;go_ret;rw [ru.out];exact gM.out.done g8 ⟨H0.out, _, gM.out.wk⟩
      have Gj : (ra == 94) = false := (by simp; exact gR);have qj := cF.out;rw [if_neg gR] at qj;have ru := Lib.hid qj;clear qj;go_wp2_with fail;go_ret;rw [ru.out];exact mA.out.done g6 ⟨rfl, by omega, mA.out.wk⟩
    have Pj : (r == 93) = false := (by rw [beq_eq_false_iff_ne]; exact vm);have qQ := Lib.hid (show pk L (aG L j) ≠ 93 by rw [HK.out, Dw.out]; exact vm);by_cases eU : r = 91
    ·obtain ⟨r2, gL⟩ : ∃ r2, pk L (k + 1) = r2 := ⟨_, rfl⟩;have LV := Lib.hid gL;have uH := Lib.hid (show kT (pk L (aG L j)) = 124 by rw [HK.out, Dw.out, eU]; rfl);have Kc := O8 (by omega);subst eU;by_cases jR : r2 = 58
     ·have Ux : k + 2 ≤ n := (by have := aS (L := L) (i := k + 1) (by omega); omega);have kQ := Lib.hid (show bZ (aR L lv) L (aG L j) = dN L k by rw [HK.out]; exact su Dw.out (by rw [LV.out]; exact jR));subst jR;as_aux_lemma =>
       obtain ⟨b, off, rfl, _, _⟩ := qF.out.wk.at (by omega);have Uh : ∀ (W : World) (x : Option Addr) (y z : Nat), (binOp .eql 22 (.slice x y z) (.slice none 0 0)).run Tryz.prog W = .ok (.bool x.isNone) W := fun W x y z => Lib.run_eql_slice_nil W _ _ x y z 0 0 Tryz.underlying22;obtain ⟨a, ha⟩ : ∃ a, k + 2 = a := ⟨_, rfl⟩;have Qz : (k : Int) + 2 = (a : Int) := (by omega);have HA := Lib.hid ha;rw [Qz] at QW;obtain ⟨rr, Sm⟩ : ∃ rr, aq bL L (k + 2) = rr := ⟨_, rfl⟩;have mR := Lib.hid Sm;have Ag : a ≤ n := (by omega);clear Sm;go_wp2_with fail;refine (tK.out _ k qF.out.wk hkn).mono ?_;rintro e w7 ⟨rfl, fK, cZ⟩;have lM := Lib.hid (qF.out.bJ cZ fK);clear fK cZ p2 mA s1 s2;rw [gL];clear gL qF;have p6 := lM.out.p0;have k6 := lM.out.wk.c1;have f6 := lM.out.wk.fz 1;have xC := Lib.hid (show fO w C w.heap.size wz.heap.size (some ⟨b, off, none⟩) n c L (a : Int) 0 q s (w7.setCell ⟨C, 1, none⟩ (.int .i64 (a : Int))).drew from by
        exact (lM.out.bJ (aF.set w7 C 1 (.int .i64 (a : Int))) (lM.out.wk.yJ (a : Int))).below (ah (Below.refl _ _)))
       go_upto_region 25 with fail;refine aD (S := (fun w' => w'.cell? ⟨w.heap.size, 0, none⟩ = some (.pointer (some ⟨C, 0, none⟩)) ∧ w'.cell? ⟨C, 1, none⟩ = some (.int .i64 k))) [0, 1, 4] (by kernel_rfl) ⟨p6, k6⟩ (fun bf => ?_);refine ai (i := 0) (oi := ⟨some 102, _, _, _, _, _⟩) (v := ?_) rfl (by kernel_rfl) (by kernel_rfl) (by kernel_rfl) (by kernel_rfl) (by kernel_rfl) (fun _ _ _ h => h) (Or.inl ⟨by rfl, ?_⟩) (by assumption) ?_;rotate_left 1
       ·intro wq bS;(try dsimp only at bS);go_simp;(try with_reducible rfl)
       (try simp only [Act.put, List.setIfInBounds_toArray, List.set_cons_zero, List.set_cons_succ]);refine ai (i := 1) (oi := ⟨some 103, _, _, _, _, _⟩) (v := ?_) rfl (by kernel_rfl) (by kernel_rfl) (by kernel_rfl) (by kernel_rfl) (by kernel_rfl) (fun _ _ _ h => h) (Or.inl ⟨by rfl, ?_⟩) (by assumption) ?_;rotate_left 1
       ·intro wq bS;(try dsimp only at bS);go_simp;(try with_reducible rfl)
       (try simp only [Act.put, List.setIfInBounds_toArray, List.set_cons_zero, List.set_cons_succ]);refine aa (i := 2) (oi := ⟨some 104, _, _, _, _, _⟩) (v := ?_) rfl (by kernel_rfl) (by kernel_rfl) (by kernel_rfl) (fun _ _ _ h => h) (Or.inl ⟨by rfl, ?_⟩) ?_;rotate_left 1
       ·intro wq _;go_simp;(try with_reducible rfl)
       (try simp only [Act.put, List.setIfInBounds_toArray, List.set_cons_zero, List.set_cons_succ]);refine aa (i := 3) (oi := ⟨some 105, _, _, _, _, _⟩) (v := ?_) rfl (by kernel_rfl) (by kernel_rfl) (by kernel_rfl) (fun _ _ _ h => h) (Or.inl ⟨by rfl, ?_⟩) ?_;rotate_left 1
       ·intro wq _;go_simp;(try with_reducible rfl)
       (try simp only [Act.put, List.setIfInBounds_toArray, List.set_cons_zero, List.set_cons_succ]);refine ai (i := 4) (oi := ⟨some 106, _, _, _, _, _⟩) (v := ?_) rfl (by kernel_rfl) (by kernel_rfl) (by kernel_rfl) (by kernel_rfl) (by kernel_rfl) (fun _ _ _ h => h) (Or.inl ⟨by rfl, ?_⟩) (by assumption) ?_;rotate_left 1
       ·intro wq bS;(try dsimp only at bS);go_simp;(try with_reducible rfl)
       (try simp only [Act.put, List.setIfInBounds_toArray, List.set_cons_zero, List.set_cons_succ]);refine aa (i := 5) (oi := ⟨some 107, _, _, _, _, _⟩) (v := ?_) rfl (by kernel_rfl) (by kernel_rfl) (by kernel_rfl) (fun _ _ _ h => h) (Or.inl ⟨by rfl, ?_⟩) ?_;rotate_left 1
       ·intro wq _;go_simp;(try with_reducible rfl)
       (try simp only [Act.put, List.setIfInBounds_toArray, List.set_cons_zero, List.set_cons_succ]);refine aa (i := 6) (oi := ⟨some 108, _, _, _, _, _⟩) (v := ?_) rfl (by kernel_rfl) (by kernel_rfl) (by kernel_rfl) (fun _ _ _ h => h) (Or.inl ⟨by rfl, ?_⟩) ?_;rotate_left 1
       ·intro wq _;go_simp;(try with_reducible rfl)
       (try simp only [Act.put, List.setIfInBounds_toArray, List.set_cons_zero, List.set_cons_succ]);refine aa (i := 7) (oi := ⟨some 109, _, _, _, _, _⟩) (v := ?_) rfl (by kernel_rfl) (by kernel_rfl) (by kernel_rfl) (fun _ _ _ h => h) (Or.inl ⟨by rfl, ?_⟩) ?_;rotate_left 1
       ·intro wq _;go_simp;(try with_reducible rfl)
       (try simp only [Act.put, List.setIfInBounds_toArray, List.set_cons_zero, List.set_cons_succ]);refine az (i := 8) (o := ⟨none, _, _, _, _, _⟩) (by kernel_rfl) rfl (by kernel_rfl) (fun K hK => ?_);go_simp;(try dsimp only);refine hK.out _ _ ?_;clear hK K;(try simp only [Act.put, List.setIfInBounds_toArray, List.set_cons_zero, List.set_cons_succ]);refine aN (by kernel_rfl) ?_ _;clear p6 k6 f6 lM;generalize (w7.setCell { block := C, off := 1 } (Value.int IntKind.i64 (a : Int))).drew = w8 at *;have pz := xC.out.p0;have k8 := xC.out.wk.c1;go_simp;go_upto_block 3 with fail;go_cut [9] (fun v wx => a ≤ rr ∧ rr ≤ n ∧ v = .int .i64 (a : Int) ∧ fO w C w.heap.size wz.heap.size (some ⟨b, off, none⟩) n c L (rr : Int) 0 q s wx);case first =>
        go_wp2_with fail;go_loopw [114] (fun _ wr => ∃ jj : Nat, a ≤ jj ∧ jj ≤ n ∧ rr = aq bL L jj ∧ fO w C w.heap.size wz.heap.size (some ⟨b, off, none⟩) n c L (jj : Int) 0 q s wr) (fun _ wr => n - (match wr.cell? ⟨C, 1, none⟩ with | some (.int _ j) => j.toNat | _ => 0));(case atStart => exact ⟨a, Nat.le_refl _, Ag, by rw [← mR.out, HA.out], xC.out⟩);obtain ⟨jj, CU, vA, hrun, Oo⟩ := hrel;have Kx := Lib.hid Oo;have sR := Lib.hid hrun;have N6 := Lib.hid Oo.wk.c1;clear pz k8;have pz := Oo.p0;have RX := jf HL.out.ok jj;clear Oo hrun;by_cases sW : bL (pk L jj) = true
        ·have hlt : jj < L.length := aS (fun e => by rw [e] at sW; exact absurd sW (by decide));have h0 : 0 ≤ pk L jj := by
          rcases RX with h | h
          ·rw [h] at sW; exact absurd sW (by decide)
          exact h.1
         have PF := Lib.hid (fun (W : World) => show Calls Tryz.prog 83 #[.int .i32 (pk L jj)] W fun e w' => e = .returned (.bool false) ∧ Below W.heap.size W w' by have := gl (pk L jj) W; rwa [jT h0, sW] at this);have Ki : IntKind.i64.wrap ((jj : Int) + 1) = (jj : Int) + 1 := wrap_small _ (by omega) (by omega);have Cj := Lib.hid (sR.out.trans (bD hlt sW));have hg0 : decide ((0 : Int) ≤ pk L jj) = true := decide_eq_true h0;go_wp2_with fail;refine (fA.out _ jj Kx.out.wk vA).mono ?_;rintro e sH ⟨rfl, eM, dF⟩;have jd := Lib.hid (Kx.out.bJ dF eM);clear eM dF pz;have pz := jd.out.p0;go_wp2_with fail;refine (fA.out _ jj jd.out.wk vA).mono ?_;rintro e EK ⟨rfl, iK, gG⟩;have rS := Lib.hid (jd.out.bJ gG iK);clear iK gG pz jd;have pz := rS.out.p0;go_wp2_with fail;refine (PF.out _).mono ?_;rintro e zl ⟨rfl, nr⟩;have lF := Lib.hid (rS.out.below nr);clear nr pz rS;have pz := lF.out.p0;obtain ⟨s1, s2, s3, s4⟩ := lF.out.wk.step;have MP := Lib.hid (show fO w C w.heap.size wz.heap.size (some ⟨b, off, none⟩) n c L ((jj + 1 : Nat) : Int) 0 q s (zl.setCell ⟨C, 1, none⟩ (.int .i64 ((jj : Int) + 1))) by rw [show ((jj + 1 : Nat) : Int) = (jj : Int) + 1 by omega]; exact lF.out.bJ s4 s3);clear s3 s4;go_wp2_with fail;refine ⟨⟨jj + 1, by omega, by omega, Cj.out, MP.out⟩, ?_⟩;rw [MP.out.wk.c1, N6.out];simp only [Int.toNat_natCast];omega
        rw [Bool.not_eq_true] at sW;obtain rfl : rr = jj := sR.out.trans (bw (fun _ => sW));clear sR N6;rcases RX with hneg | hpos;all_goals first
        | have UH := hneg
          go_wp2_with fail
          refine (fA.out _ rr Kx.out.wk vA).mono ?_
          rintro e zl ⟨rfl, yI, nr⟩
          have lF := Lib.hid (Kx.out.bJ nr yI)
          clear yI nr pz
          rw [hneg]
        | have hps := hpos
          have Lt := Lib.hid (fun (W : World) => show Calls Tryz.prog 83 #[.int .i32 (pk L rr)] W fun e w' => e = .returned (.bool true) ∧ Below W.heap.size W w' by have := gl (pk L rr) W; rwa [jT hpos.1, sW] at this)
          have hg0 : decide ((0 : Int) ≤ pk L rr) = true := decide_eq_true hpos.1
          go_wp2_with fail
          refine (fA.out _ rr Kx.out.wk vA).mono ?_
          rintro e sH ⟨rfl, eM, dF⟩
          have jd := Lib.hid (Kx.out.bJ dF eM)
          clear eM dF pz
          have pz := jd.out.p0
          go_wp2_with fail
          refine (fA.out _ rr jd.out.wk vA).mono ?_
          rintro e EK ⟨rfl, iK, gG⟩
          have rS := Lib.hid (jd.out.bJ gG iK)
          clear iK gG pz jd
          have pz := rS.out.p0
          go_wp2_with fail
          refine (Lt.out _).mono ?_
          rintro e zl ⟨rfl, nr⟩
          have lF := Lib.hid (rS.out.below nr)
          clear nr pz rS Lt
        all_goals
          have Mw := Lib.hid lF.out
          go_wp2_with fail
          go_meet
          exact ⟨CU, vA, rfl, Mw.out⟩
       obtain ⟨CU, vA, rfl, zH⟩ := hcut;obtain ⟨zl, PD⟩ : ∃ zl, zl = wc := ⟨_, rfl⟩;subst PD;have lF := Lib.hid zH;clear zH pz k8 xC;have d0 := lF.out.wk.c0;have d1 := lF.out.wk.c1;have d2 := lF.out.p0;have kr := Gk (lF.out.wk.drewN 1) CU vA;have mT : (a : Int) ≤ (rr : Int) := (by omega);have hk2 : (rr : Int) ≤ (c : Int) := (by have := lF.out.wk.cap; omega);have G2 : (0 : Int) ≤ (a : Int) := (by omega);have hts : (runesBytes (ay L a rr)).size ≤ maxLen := j4 _ (by unfold ay; rw [List.length_take]; omega) (by unfold ay; rw [List.length_take]; omega);have MD := Lib.hid (qT (ay L a rr));have Mn := Lib.hid (show Below zl.heap.size zl zl.drew from (Below.refl _ _).drew);generalize runesBytes (ay L a rr) = T at *;have iZ := Lib.hid (fun (W : World) => BP T W hts);clear hts;cases xp : eO (ay L a rr) with
       | none =>
        have HT := Lib.hid (MD.out.trans xp);have fy := Lib.hid (kQ.out.trans (uk mR.out (by rw [HA.out]; exact xp)));rw [HA.out] at fy;clear xp;go_upto_region 29 with fail;refine aD (S := (fun w' => w'.cell? ⟨w.heap.size, 0, none⟩ = some (.pointer (some ⟨C, 0, none⟩)) ∧ w'.cell? ⟨C, 0, none⟩ = some (.slice (some ⟨b, off, none⟩) n c) ∧ w'.cell? ⟨C, 1, none⟩ = some (.int .i64 rr) ∧ (convert 61 9 (.slice (if c = a then some ⟨b, off, none⟩ else some ⟨b, off + a, none⟩) (rr - a) (c - a))).run Tryz.prog w' = .ok (.string T) w')) [0, 3, 5, 8, 10] (by kernel_rfl) ⟨d2, d0, d1, kr⟩ (fun bf => ?_);refine ai (i := 0) (oi := ⟨some 130, _, _, _, _, _⟩) (v := ?_) rfl (by kernel_rfl) (by kernel_rfl) (by kernel_rfl) (by kernel_rfl) (by kernel_rfl) (fun _ _ _ h => h) (Or.inl ⟨by rfl, ?_⟩) (by assumption) ?_;rotate_left 1
        ·intro wq bS;(try dsimp only at bS);go_simp;(try with_reducible rfl)
        (try simp only [Act.put, List.setIfInBounds_toArray, List.set_cons_zero, List.set_cons_succ]);refine aa (i := 1) (oi := ⟨some 131, _, _, _, _, _⟩) (v := ?_) rfl (by kernel_rfl) (by kernel_rfl) (by kernel_rfl) (fun _ _ _ h => h) (Or.inl ⟨by rfl, ?_⟩) ?_;rotate_left 1
        ·intro wq _;go_simp;(try with_reducible rfl)
        (try simp only [Act.put, List.setIfInBounds_toArray, List.set_cons_zero, List.set_cons_succ]);refine aa (i := 2) (oi := ⟨some 132, _, _, _, _, _⟩) (v := ?_) rfl (by kernel_rfl) (by kernel_rfl) (by kernel_rfl) (fun _ _ _ h => h) (Or.inl ⟨by rfl, ?_⟩) ?_;rotate_left 1
        ·intro wq _;go_simp;(try with_reducible rfl)
        (try simp only [Act.put, List.setIfInBounds_toArray, List.set_cons_zero, List.set_cons_succ]);refine ai (i := 3) (oi := ⟨some 133, _, _, _, _, _⟩) (v := ?_) rfl (by kernel_rfl) (by kernel_rfl) (by kernel_rfl) (by kernel_rfl) (by kernel_rfl) (fun _ _ _ h => h) (Or.inl ⟨by rfl, ?_⟩) (by assumption) ?_;rotate_left 1
        ·intro wq bS;(try dsimp only at bS);go_simp;(try with_reducible rfl)
        (try simp only [Act.put, List.setIfInBounds_toArray, List.set_cons_zero, List.set_cons_succ]);refine aa (i := 4) (oi := ⟨some 134, _, _, _, _, _⟩) (v := ?_) rfl (by kernel_rfl) (by kernel_rfl) (by kernel_rfl) (fun _ _ _ h => h) (Or.inl ⟨by rfl, ?_⟩) ?_;rotate_left 1
        ·intro wq _;go_simp;(try with_reducible rfl)
        (try simp only [Act.put, List.setIfInBounds_toArray, List.set_cons_zero, List.set_cons_succ]);refine ai (i := 5) (oi := ⟨some 135, _, _, _, _, _⟩) (v := ?_) rfl (by kernel_rfl) (by kernel_rfl) (by kernel_rfl) (by kernel_rfl) (by kernel_rfl) (fun _ _ _ h => h) (Or.inl ⟨by rfl, ?_⟩) (by assumption) ?_;rotate_left 1
        ·intro wq bS;(try dsimp only at bS);go_simp;(try with_reducible rfl)
        (try simp only [Act.put, List.setIfInBounds_toArray, List.set_cons_zero, List.set_cons_succ]);refine aa (i := 6) (oi := ⟨some 136, _, _, _, _, _⟩) (v := ?_) rfl (by kernel_rfl) (by kernel_rfl) (by kernel_rfl) (fun _ _ _ h => h) (Or.inl ⟨by rfl, ?_⟩) ?_;rotate_left 1
        ·intro wq _;go_simp;(try with_reducible rfl)
        (try simp only [Act.put, List.setIfInBounds_toArray, List.set_cons_zero, List.set_cons_succ]);refine aa (i := 7) (oi := ⟨some 137, _, _, _, _, _⟩) (v := ?_) rfl (by kernel_rfl) (by kernel_rfl) (by kernel_rfl) (fun _ _ _ h => h) (Or.inl ⟨by rfl, ?_⟩) ?_;rotate_left 1
        ·intro wq _;go_simp;(try with_reducible rfl)
        (try simp only [Act.put, List.setIfInBounds_toArray, List.set_cons_zero, List.set_cons_succ]);refine ai (i := 8) (oi := ⟨some 138, _, _, _, _, _⟩) (v := ?_) rfl (by kernel_rfl) (by kernel_rfl) (by kernel_rfl) (by kernel_rfl) (by kernel_rfl) (fun _ _ _ h => h) (Or.inl ⟨by rfl, ?_⟩) (by assumption) ?_;rotate_left 1
        ·intro wq bS;(try dsimp only at bS);go_simp;(try with_reducible rfl)
        (try simp only [Act.put, List.setIfInBounds_toArray, List.set_cons_zero, List.set_cons_succ]);refine aa (i := 9) (oi := ⟨some 139, _, _, _, _, _⟩) (v := ?_) rfl (by kernel_rfl) (by kernel_rfl) (by kernel_rfl) (fun _ _ _ h => h) (Or.inl ⟨by rfl, ?_⟩) ?_;rotate_left 1
        ·intro wq _;go_simp;(try with_reducible rfl)
        (try simp only [Act.put, List.setIfInBounds_toArray, List.set_cons_zero, List.set_cons_succ]);refine ai (i := 10) (oi := ⟨some 140, _, _, _, _, _⟩) (v := ?_) rfl (by kernel_rfl) (by kernel_rfl) (by kernel_rfl) (by kernel_rfl) (by kernel_rfl) (fun _ _ _ h => h) (Or.inl ⟨by rfl, ?_⟩) (by assumption) ?_;rotate_left 1
        ·intro wq bS;(try dsimp only at bS);go_simp;(try with_reducible rfl)
        (try simp only [Act.put, List.setIfInBounds_toArray, List.set_cons_zero, List.set_cons_succ]);refine az (i := 11) (o := ⟨some 141, _, _, _, _, _⟩) (by kernel_rfl) rfl (by kernel_rfl) (fun K hK => ?_);go_simp;go_at_call 84;refine (iZ.out _).mono ?_;rintro e w9 Jw;unfold qI at Jw;rw [HT.out] at Jw;obtain ⟨rfl, bI⟩ := Jw;(try dsimp only);refine hK.out _ _ ?_;clear hK K;(try simp only [Act.put, List.setIfInBounds_toArray, List.set_cons_zero, List.set_cons_succ]);refine aa (i := 12) (oi := ⟨some 10, _, _, _, _, _⟩) (v := ?_) rfl (by kernel_rfl) (by kernel_rfl) (by kernel_rfl) (fun _ _ _ h => h) (Or.inl ⟨by rfl, ?_⟩) ?_;rotate_left 1
        ·intro wq _;go_simp;(try with_reducible rfl)
        (try simp only [Act.put, List.setIfInBounds_toArray, List.set_cons_zero, List.set_cons_succ]);refine aN (by kernel_rfl) ?_ _;generalize (if c = a then some ({ block := b, off := off } : Addr) else some { block := b, off := off + a }) = Z;have yO := Lib.hid ((lF.out.below Mn.out).below bI);clear bI d0 d1 d2 kr lF;have pz := yO.out.p0;go_simp;go_wp2_with fail;refine (dY _ C _ n c L rr q 7 a yO.out.wk).mono ?_;rintro e sH ⟨rfl, eM, dF⟩;have C3 := Lib.hid (yO.out.bJ dF eM);clear eM dF pz;have pz := C3.out.p0;go_wp2_with fail;refine (eJ _ C _ n c L rr 7 a 58 C3.out.wk (by decide) (by decide)).mono ?_;rintro e wb ⟨rfl, hcb, eG⟩;have PR := Lib.hid (C3.out.bJ eG hcb);clear hcb eG pz;have pz := PR.out.p0;go_wp2_with fail;refine (eJ _ C _ n c L rr 7 a 93 PR.out.wk (by decide) (by decide)).mono ?_;rintro e wb ⟨rfl, hcb, eG⟩;have Gp := Lib.hid (PR.out.bJ eG hcb);clear hcb eG pz;have pz := Gp.out.p0;have iB := Lib.hid (iO (p := q) 124 (by decide) Gp.out (show bk _ none 0 0 [] from ⟨dR, Rd.nil, Nat.le_refl _⟩) uH.out iz.out qQ.out fy.out ⟨by decide, rfl, rfl⟩ EY hjn);go_wp2_with fail;refine iB.out.mono ?_;rintro e Q7 ⟨rfl, oL, wD⟩;have qv := Lib.hid oL;clear oL;go_wp2_with fail;exact ⟨qv.out, by rw [gT.out]; exact wD⟩
       | some t =>
        have HT := Lib.hid (MD.out.trans xp);have qE := Lib.hid (pX xp);have zk := Lib.hid (show eO (ay L (k + 2) rr) = some t by rw [HA.out]; exact xp);clear xp;go_upto_region 29 with fail;refine aD (S := (fun w' => w'.cell? ⟨w.heap.size, 0, none⟩ = some (.pointer (some ⟨C, 0, none⟩)) ∧ w'.cell? ⟨C, 0, none⟩ = some (.slice (some ⟨b, off, none⟩) n c) ∧ w'.cell? ⟨C, 1, none⟩ = some (.int .i64 rr) ∧ (convert 61 9 (.slice (if c = a then some ⟨b, off, none⟩ else some ⟨b, off + a, none⟩) (rr - a) (c - a))).run Tryz.prog w' = .ok (.string T) w')) [0, 3, 5, 8, 10] (by kernel_rfl) ⟨d2, d0, d1, kr⟩ (fun bf => ?_);refine ai (i := 0) (oi := ⟨some 130, _, _, _, _, _⟩) (v := ?_) rfl (by kernel_rfl) (by kernel_rfl) (by kernel_rfl) (by kernel_rfl) (by kernel_rfl) (fun _ _ _ h => h) (Or.inl ⟨by rfl, ?_⟩) (by assumption) ?_;rotate_left 1
        ·intro wq bS;(try dsimp only at bS);go_simp;(try with_reducible rfl)
        (try simp only [Act.put, List.setIfInBounds_toArray, List.set_cons_zero, List.set_cons_succ]);refine aa (i := 1) (oi := ⟨some 131, _, _, _, _, _⟩) (v := ?_) rfl (by kernel_rfl) (by kernel_rfl) (by kernel_rfl) (fun _ _ _ h => h) (Or.inl ⟨by rfl, ?_⟩) ?_;rotate_left 1
        ·intro wq _;go_simp;(try with_reducible rfl)
        (try simp only [Act.put, List.setIfInBounds_toArray, List.set_cons_zero, List.set_cons_succ]);refine aa (i := 2) (oi := ⟨some 132, _, _, _, _, _⟩) (v := ?_) rfl (by kernel_rfl) (by kernel_rfl) (by kernel_rfl) (fun _ _ _ h => h) (Or.inl ⟨by rfl, ?_⟩) ?_;rotate_left 1
        ·intro wq _;go_simp;(try with_reducible rfl)
        (try simp only [Act.put, List.setIfInBounds_toArray, List.set_cons_zero, List.set_cons_succ]);refine ai (i := 3) (oi := ⟨some 133, _, _, _, _, _⟩) (v := ?_) rfl (by kernel_rfl) (by kernel_rfl) (by kernel_rfl) (by kernel_rfl) (by kernel_rfl) (fun _ _ _ h => h) (Or.inl ⟨by rfl, ?_⟩) (by assumption) ?_;rotate_left 1
        ·intro wq bS;(try dsimp only at bS);go_simp;(try with_reducible rfl)
        (try simp only [Act.put, List.setIfInBounds_toArray, List.set_cons_zero, List.set_cons_succ]);refine aa (i := 4) (oi := ⟨some 134, _, _, _, _, _⟩) (v := ?_) rfl (by kernel_rfl) (by kernel_rfl) (by kernel_rfl) (fun _ _ _ h => h) (Or.inl ⟨by rfl, ?_⟩) ?_;rotate_left 1
        ·intro wq _;go_simp;(try with_reducible rfl)
        (try simp only [Act.put, List.setIfInBounds_toArray, List.set_cons_zero, List.set_cons_succ]);refine ai (i := 5) (oi := ⟨some 135, _, _, _, _, _⟩) (v := ?_) rfl (by kernel_rfl) (by kernel_rfl) (by kernel_rfl) (by kernel_rfl) (by kernel_rfl) (fun _ _ _ h => h) (Or.inl ⟨by rfl, ?_⟩) (by assumption) ?_;rotate_left 1
        ·intro wq bS;(try dsimp only at bS);go_simp;(try with_reducible rfl)
        (try simp only [Act.put, List.setIfInBounds_toArray, List.set_cons_zero, List.set_cons_succ]);refine aa (i := 6) (oi := ⟨some 136, _, _, _, _, _⟩) (v := ?_) rfl (by kernel_rfl) (by kernel_rfl) (by kernel_rfl) (fun _ _ _ h => h) (Or.inl ⟨by rfl, ?_⟩) ?_;rotate_left 1
        ·intro wq _;go_simp;(try with_reducible rfl)
        (try simp only [Act.put, List.setIfInBounds_toArray, List.set_cons_zero, List.set_cons_succ]);refine aa (i := 7) (oi := ⟨some 137, _, _, _, _, _⟩) (v := ?_) rfl (by kernel_rfl) (by kernel_rfl) (by kernel_rfl) (fun _ _ _ h => h) (Or.inl ⟨by rfl, ?_⟩) ?_;rotate_left 1
        ·intro wq _;go_simp;(try with_reducible rfl)
        (try simp only [Act.put, List.setIfInBounds_toArray, List.set_cons_zero, List.set_cons_succ]);refine ai (i := 8) (oi := ⟨some 138, _, _, _, _, _⟩) (v := ?_) rfl (by kernel_rfl) (by kernel_rfl) (by kernel_rfl) (by kernel_rfl) (by kernel_rfl) (fun _ _ _ h => h) (Or.inl ⟨by rfl, ?_⟩) (by assumption) ?_;rotate_left 1
        ·intro wq bS;(try dsimp only at bS);go_simp;(try with_reducible rfl)
        (try simp only [Act.put, List.setIfInBounds_toArray, List.set_cons_zero, List.set_cons_succ]);refine aa (i := 9) (oi := ⟨some 139, _, _, _, _, _⟩) (v := ?_) rfl (by kernel_rfl) (by kernel_rfl) (by kernel_rfl) (fun _ _ _ h => h) (Or.inl ⟨by rfl, ?_⟩) ?_;rotate_left 1
        ·intro wq _;go_simp;(try with_reducible rfl)
        (try simp only [Act.put, List.setIfInBounds_toArray, List.set_cons_zero, List.set_cons_succ]);refine ai (i := 10) (oi := ⟨some 140, _, _, _, _, _⟩) (v := ?_) rfl (by kernel_rfl) (by kernel_rfl) (by kernel_rfl) (by kernel_rfl) (by kernel_rfl) (fun _ _ _ h => h) (Or.inl ⟨by rfl, ?_⟩) (by assumption) ?_;rotate_left 1
        ·intro wq bS;(try dsimp only at bS);go_simp;(try with_reducible rfl)
        (try simp only [Act.put, List.setIfInBounds_toArray, List.set_cons_zero, List.set_cons_succ]);refine az (i := 11) (o := ⟨some 141, _, _, _, _, _⟩) (by kernel_rfl) rfl (by kernel_rfl) (fun K hK => ?_);go_simp;go_at_call 84;refine (iZ.out _).mono ?_;rintro e w9 Jw;unfold qI at Jw;rw [HT.out] at Jw;obtain ⟨⟨ad, n9, c9, rfl, KN, nS⟩, bI⟩ := Jw;(try dsimp only);refine hK.out _ _ ?_;clear hK K;(try simp only [Act.put, List.setIfInBounds_toArray, List.set_cons_zero, List.set_cons_succ]);refine aa (i := 12) (oi := ⟨some 10, _, _, _, _, _⟩) (v := ?_) rfl (by kernel_rfl) (by kernel_rfl) (by kernel_rfl) (fun _ _ _ h => h) (Or.inl ⟨by rfl, ?_⟩) ?_;rotate_left 1
        ·intro wq _;go_simp;(try with_reducible rfl)
        (try simp only [Act.put, List.setIfInBounds_toArray, List.set_cons_zero, List.set_cons_succ]);refine aN (by kernel_rfl) ?_ _;generalize (if c = a then some ({ block := b, off := off } : Addr) else some { block := b, off := off + a }) = Z;have yO := Lib.hid ((lF.out.below Mn.out).below bI);have Cd := Lib.hid (KN.lift (X' := fun b => C < b) (fun b h => by have := lF.out.wk.lt; have h2 : zl.heap.size ≤ b := h; omega));clear bI d0 d1 d2 kr lF KN;have pz := yO.out.p0;have nV := Lib.hid (jI _ C _ n c L rr q 58 yO.out.wk vA (by decide));go_simp;cases F6 : aH L rr 58 with
        | error e0 =>
         obtain ⟨x, y⟩ := e0;rw [F6] at nV;have fy := Lib.hid (kQ.out.trans (uA mR.out zk.out F6));clear F6;go_wp2_with fail;refine nV.out.mono ?_;rintro e sH ⟨rfl, ⟨hx, Ko, eM⟩, dF⟩;have C3 := Lib.hid (yO.out.bJ dF eM);have Cd := Lib.hid (Cd.out.Dd dF);have tB := Lib.hid hx;clear eM dF hx pz;have pz := C3.out.p0;go_wp2_with fail;refine (eJ _ C _ n c L Ko x y 93 C3.out.wk tB.out (by decide)).mono ?_;rintro e wb ⟨rfl, hcb, eG⟩;have Gp := Lib.hid (C3.out.bJ eG hcb);have Cd := Lib.hid (Cd.out.Dd eG);clear hcb eG pz;have pz := Gp.out.p0;have iB := Lib.hid (iO (p := q) 124 (by decide) Gp.out ⟨qE.out, Cd.out.of, nS⟩ uH.out iz.out qQ.out fy.out ⟨tB.out, rfl, rfl⟩ EY hjn);go_wp2_with fail;refine iB.out.mono ?_;rintro e Q7 ⟨rfl, oL, wD⟩;have qv := Lib.hid oL;clear oL;go_wp2_with fail;exact ⟨qv.out, by rw [gT.out]; exact wD⟩
        | ok j1 =>
         rw [F6] at nV;have LP := Lib.hid F6;clear F6;go_wp2_with fail;refine nV.out.mono ?_;rintro e sH ⟨rfl, ⟨zL, eM⟩, dF⟩;have C3 := Lib.hid (yO.out.bJ dF eM);have Cd := Lib.hid (Cd.out.Dd dF);clear eM dF pz;have pz := C3.out.p0;have F1 := Lib.hid (jI _ C _ n c L j1 q 93 C3.out.wk zL (by decide));cases hn2 : aH L j1 93 with
         | error e0 =>
          obtain ⟨x, y⟩ := e0;rw [hn2] at F1;have fy := Lib.hid (kQ.out.trans (uu mR.out zk.out LP.out hn2));clear hn2;go_wp2_with fail;refine F1.out.mono ?_;rintro e EK ⟨rfl, ⟨hx, Sr, iK⟩, gG⟩;have Gp := Lib.hid (C3.out.bJ gG iK);have Cd := Lib.hid (Cd.out.Dd gG);have tB := Lib.hid hx;clear iK gG hx pz;have iB := Lib.hid (iO (p := q) 124 (by decide) Gp.out ⟨qE.out, Cd.out.of, nS⟩ uH.out iz.out qQ.out fy.out ⟨tB.out, rfl, rfl⟩ EY hjn);go_wp2_with fail;refine iB.out.mono ?_;rintro e Q7 ⟨rfl, oL, wD⟩;have qv := Lib.hid oL;clear oL;go_wp2_with fail;exact ⟨qv.out, by rw [gT.out]; exact wD⟩
         | ok j2 =>
          rw [hn2] at F1;have fy := Lib.hid (kQ.out.trans (xQ mR.out zk.out LP.out hn2));have pS := Lib.hid (qw.out t j2 fy.out);clear hn2;go_wp2_with fail;refine F1.out.mono ?_;rintro e EK ⟨rfl, ⟨hj2, iK⟩, gG⟩;have Gp := Lib.hid (C3.out.bJ gG iK);have Cd := Lib.hid (Cd.out.Dd gG);clear iK gG pz;have iB := Lib.hid (iO (p := q) 124 (by decide) Gp.out ⟨qE.out, Cd.out.of, nS⟩ uH.out iz.out qQ.out fy.out ⟨rfl, rfl, rfl, rfl, Nat.lt_of_le_of_lt yM pS.out.1, hj2⟩ EY hjn);go_wp2_with fail;refine iB.out.mono ?_;rintro e Q7 ⟨rfl, oL, wD⟩;have qv := Lib.hid oL;clear oL;go_wp2_with fail;exact ⟨qv.out, by rw [gT.out]; exact wD⟩
     have Ov : (r2 == 58) = false := (by rw [beq_eq_false_iff_ne]; exact jR);have kQ := Lib.hid (show bZ (aR L lv) L (aG L j) = aR L lv k by rw [HK.out]; exact xL Dw.out (by rw [LV.out]; exact jR));as_aux_lemma =>
      go_wp2_with fail;refine (tK.out _ k qF.out.wk hkn).mono ?_;rintro e w7 ⟨rfl, fK, cZ⟩;have lM := Lib.hid (qF.out.bJ cZ fK);clear fK cZ p2 mA;rw [gL];clear gL;have p2 := lM.out.p0;go_wp2_with fail;refine (Ky.out _ k hkn lM.out.wk).mono ?_;rintro e w8 Nf;obtain ⟨B8, m8, d8, t8, i8, e8, q8, rfl, wP, M9, M5⟩ := lM.out.inner (k := k) (j := j) Nf (fun t j2 h => (qw.out t j2 (kQ.out.trans h)).1) yM;have iB := Lib.hid (iO 124 (by decide) wP M9 uH.out iz.out qQ.out kQ.out M5 EY hjn);clear Nf wP M9 M5 p2;go_wp2_with fail;refine iB.out.mono ?_;rintro e w9 ⟨rfl, oL, wD⟩;have qv := Lib.hid (show DR w C w.heap.size wz.heap.size A n c L q (aR L lv) Rp _ ∧ zm C n _ < n + 1 - j from ⟨oL, wD⟩);clear oL wD;go_wp2_with fail;exact ⟨qv.out.1, by rw [gT.out]; exact qv.out.2⟩
    have LS : (r == 91) = false := (by rw [beq_eq_false_iff_ne]; exact eU);by_cases hop : r = 38 ∨ r = 45
    ·have kQ := Lib.hid (show bZ (aR L lv) L (aG L j) = aR L lv (aG L (k + 1)) by rw [HK.out]; exact u7 (by rw [Dw.out]; exact hop));have uH := Lib.hid (show kT (pk L (aG L j)) = r by rw [HK.out, Dw.out]; unfold kT; rw [if_pos hop]);have Kc := O8 (by omega);have PK : aG L (k + 1) ≤ n := (by rw [← hlen]; exact (dA (by omega)).2);have US : j ≤ aG L (k + 1) := (by have := cL L (k + 1); omega);as_aux_lemma =>
      have p6 := mA.out.p0;rcases hop with rfl | rfl
      all_goals
        go_wp2_with fail
        refine (l7 _ C A n c L (k + 1) q mA.out.wk Kc).mono ?_
        rintro e w7 ⟨rfl, fK, cZ⟩
        have lM := Lib.hid (mA.out.bJ cZ fK)
        clear fK cZ p2 p6
        have p2 := lM.out.p0
        go_wp2_with fail
        refine (Ky.out _ (aG L (k + 1)) PK lM.out.wk).mono ?_
        rintro e w8 Nf
        obtain ⟨B8, m8, d8, t8, i8, e8, q8, rfl, wP, M9, M5⟩ := lM.out.inner (k := k) (j := j) Nf (fun t j2 h => (qw.out t j2 (kQ.out.trans h)).1) yM
        have iB := Lib.hid (iO _ (by decide) wP M9 uH.out iz.out qQ.out kQ.out M5 EY hjn)
        clear Nf wP M9 M5 p2
        go_wp2_with fail
        refine iB.out.mono ?_
        rintro e w9 ⟨rfl, oL, wD⟩
        have qv := Lib.hid (show DR w C w.heap.size wz.heap.size A n c L q (aR L lv) Rp _ ∧ zm C n _ < n + 1 - j from ⟨oL, wD⟩)
        clear oL wD
        go_wp2_with fail
        exact ⟨qv.out.1, by rw [gT.out]; exact qv.out.2⟩
    have QD : (r == 38) = false := (by rw [beq_eq_false_iff_ne]; omega);have Qy : (r == 45) = false := (by rw [beq_eq_false_iff_ne]; omega);have kQ := Lib.hid (show bZ (aR L lv) L (aG L j) = iq L k by rw [HK.out]; exact uY (by rw [Dw.out]; exact eU) (by rw [Dw.out]; omega) (by rw [Dw.out]; omega));have uH := Lib.hid (show kT (pk L (aG L j)) = 124 by rw [HK.out, Dw.out]; unfold kT; rw [if_neg hop]);as_aux_lemma =>
     have tj := Lib.hid (vw _ C A n c L k q qF.out.wk hkn HL.out.ok);clear mA s1 s2;cases hch : bU L k with
     | error e0 =>
      obtain ⟨x, y⟩ := e0;have Iu := Lib.hid hch;rw [hch] at tj;clear hch;go_wp2_with fail;refine tj.out.mono ?_;rintro e w7 ⟨⟨hx, v, i7, rfl, fK⟩, cZ⟩;have lM := Lib.hid (qF.out.bJ cZ fK);have tB := Lib.hid hx;clear fK cZ hx p2;have p2 := lM.out.p0;go_wp2_with fail;refine (eY _ C A n c L i7 x y 0 lM.out.wk tB.out).mono ?_;rintro en w8 ⟨rfl, jh, bB⟩;have xC := Lib.hid (lM.out.bJ bB jh);clear jh bB p2;have p2 := xC.out.p0;go_wp2_with fail;refine (bE _ C A n c L i7 x y xC.out.wk tB.out).mono ?_;rintro en wa ⟨rfl, qd⟩;subst qd;have hO := Lib.hid (si (p := q) xC.out tB.out iz.out qQ.out (kQ.out.trans (xH Iu.out)) hjn);go_wp2_with fail;exact ⟨hO.out.1, by rw [gT.out]; exact hO.out.2⟩
     | ok q0 =>
      obtain ⟨low, j1⟩ := q0;have Iu := Lib.hid hch;rw [hch] at tj;clear hch;go_wp2_with fail;refine tj.out.mono ?_;rintro e w7 ⟨⟨rfl, zL, fK⟩, cZ⟩;have lM := Lib.hid (qF.out.bJ cZ fK);clear fK cZ p2 qF tj;have p2 := lM.out.p0;obtain ⟨r3, nt⟩ : ∃ r3, pk L j1 = r3 := ⟨_, rfl⟩;obtain ⟨r4, Fe⟩ : ∃ r4, pk L (j1 + 1) = r4 := ⟨_, rfl⟩;have oC := Lib.hid (fA.out _ j1 lM.out.wk zL);rw [nt] at oC;by_cases h3 : r3 = 45
      ·subst h3;have P4 : j1 < n := (by rw [← hlen]; exact aS (by omega));go_wp2_with fail;refine oC.out.mono ?_;rintro e w8 ⟨rfl, jh, bB⟩;have xC := Lib.hid (lM.out.bJ bB jh);clear jh bB p2 lM oC;have p2 := xC.out.p0;have Dk := Lib.hid (tK.out _ j1 xC.out.wk zL);rw [Fe] at Dk;go_wp2_with fail;refine Dk.out.mono ?_;rintro e E1 ⟨rfl, jh, bB⟩;have CM := Lib.hid (xC.out.bJ bB jh);clear jh bB p2 xC Dk;have p2 := CM.out.p0;by_cases h4 : r4 = 91
       ·subst h4;have HS := Lib.hid (lV Iu.out (by rw [Fe]; exact fun h => h.2 rfl));clear nt Fe;go_wp2_with fail;refine (cJ _ C A n c L j1 q CM.out.wk).mono ?_;rintro en wa ⟨rfl, qd⟩;subst qd;have fy := Lib.hid (kQ.out.trans HS.out);have pS := Lib.hid (qw.out [(low, low)] j1 fy.out);have IG := Lib.hid (CM.out.below ((Below.refl _ _).alloc (Nat.le_refl _) (.cells #[.int .i32 low, .int .i32 low] 74)));have C5 := Lib.hid (show bk (wa.alloc (.cells #[.int .i32 low, .int .i32 low] 74)) (some ⟨wa.heap.size, 0, none⟩) 1 1 [(low, low)] from ⟨pS.out.2, Rd.more (Rd.new wa 74 2 1 [.int .i32 low, .int .i32 low] rfl) (show wa.heap.size + 1 ≤ (wa.alloc (.cells #[.int .i32 low, .int .i32 low] 74)).heap.size by simp), Nat.le_refl _⟩);have iB := Lib.hid (iO (p := q) 124 (by decide) IG.out C5.out uH.out iz.out qQ.out fy.out ⟨rfl, rfl, rfl, rfl, Nat.lt_of_le_of_lt yM pS.out.1, zL⟩ EY hjn);go_wp2_with fail;refine iB.out.mono ?_;rintro e w9 ⟨rfl, oL, wD⟩;have qv := Lib.hid oL;clear oL;go_wp2_with fail;exact ⟨qv.out, by rw [gT.out]; exact wD⟩
       have q4 : (r4 != 91) = true := (by simp; exact h4);have OX := Lib.hid (show pk L j1 = 45 ∧ pk L (j1 + 1) ≠ 91 from ⟨nt, by rw [Fe]; exact h4⟩);obtain ⟨s1, s2, s3, s4⟩ := CM.out.wk.step;have Ki : IntKind.i64.wrap ((j1 : Int) + 1) = (j1 : Int) + 1 := wrap_small _ (by omega) (by omega);have lT : ((j1 + 1 : Nat) : Int) = (j1 : Int) + 1 := (by omega);have yO := Lib.hid (show fO w C w.heap.size wz.heap.size A n c L ((j1 + 1 : Nat) : Int) 0 q s (E1.setCell ⟨C, 1, none⟩ (.int .i64 ((j1 : Int) + 1))) by rw [lT]; exact CM.out.bJ s4 s3);have p9 := yO.out.p0;have k9 : (E1.setCell ⟨C, 1, none⟩ (.int .i64 ((j1 : Int) + 1))).cell? ⟨C, 1, none⟩ = some (.int .i64 ((j1 : Int) + 1)) := (by rw [← lT]; exact yO.out.wk.c1);clear s3 s4 CM;have CC := Lib.hid (vw _ C A n c L (j1 + 1) q yO.out.wk P4 HL.out.ok);cases hch2 : bU L (j1 + 1) with
       | error e0 =>
        obtain ⟨x, y⟩ := e0;have HS := Lib.hid (xS Iu.out OX.out hch2);rw [hch2] at CC;clear hch2 nt Fe;go_wp2_with fail;refine CC.out.mono ?_;rintro e sH ⟨⟨hx, v, Ko, rfl, eM⟩, dF⟩;have jd := Lib.hid (yO.out.bJ dF eM);have tB := Lib.hid hx;clear eM dF hx p2 p9 k9 s1 s2 yO CC;have p2 := jd.out.p0;by_cases hvl : v < low
        ·go_wp2_with fail;refine (eK _ C A n c L Ko x y 3 _ jd.out.wk tB.out).mono ?_;rintro en EK ⟨rfl, OI⟩;subst OI;go_wp2_with fail;refine (bE _ C A n c L Ko x y jd.out.wk tB.out).mono ?_;rintro en wa ⟨rfl, qd⟩;subst qd;have hO := Lib.hid (si (p := q) jd.out tB.out iz.out qQ.out (kQ.out.trans HS.out) hjn);go_wp2_with fail;exact ⟨hO.out.1, by rw [gT.out]; exact hO.out.2⟩
        have OQ : decide (v < low) = false := decide_eq_false hvl;go_wp2_with fail;refine (bE _ C A n c L Ko x y jd.out.wk tB.out).mono ?_;rintro en wa ⟨rfl, qd⟩;subst qd;have hO := Lib.hid (si (p := q) jd.out tB.out iz.out qQ.out (kQ.out.trans HS.out) hjn);go_wp2_with fail;exact ⟨hO.out.1, by rw [gT.out]; exact hO.out.2⟩
       | ok q2 =>
        obtain ⟨high, k2⟩ := q2;have Nw := Lib.hid hch2;rw [hch2] at CC;clear hch2 nt Fe;go_wp2_with fail;refine CC.out.mono ?_;rintro e sH ⟨⟨rfl, hk2, eM⟩, dF⟩;have jd := Lib.hid (yO.out.bJ dF eM);clear eM dF p2 p9 k9 s1 s2 yO CC;have p2 := jd.out.p0;by_cases hvl : high < low
        ·have HS := Lib.hid (xA Iu.out OX.out Nw.out hvl);go_wp2_with fail;refine (dY _ C A n c L k2 q 3 _ jd.out.wk).mono ?_;rintro en EK ⟨rfl, iK, gG⟩;have rS := Lib.hid (show fO w C w.heap.size wz.heap.size A n c L k2 3 ((j1 + 1 : Nat) : Int) s EK by rw [lT]; exact jd.out.bJ gG iK);clear iK gG p2 jd;have p2 := rS.out.p0;go_wp2_with fail;refine (bE _ C A n c L k2 3 ((j1 + 1 : Nat) : Int) rS.out.wk (by decide)).mono ?_;rintro en wa ⟨rfl, qd⟩;subst qd;have hO := Lib.hid (si (p := q) rS.out (by decide) iz.out qQ.out (kQ.out.trans HS.out) hjn);go_wp2_with fail;exact ⟨hO.out.1, by rw [gT.out]; exact hO.out.2⟩
        have OQ : decide (high < low) = false := decide_eq_false hvl;have HS := Lib.hid (uN Iu.out OX.out Nw.out hvl);go_wp2_with fail;refine (cJ _ C A n c L k2 q jd.out.wk).mono ?_;rintro en wa ⟨rfl, qd⟩;subst qd;have fy := Lib.hid (kQ.out.trans HS.out);have pS := Lib.hid (qw.out [(low, high)] k2 fy.out);have IG := Lib.hid (jd.out.below ((Below.refl _ _).alloc (Nat.le_refl _) (.cells #[.int .i32 low, .int .i32 high] 74)));have C5 := Lib.hid (show bk (wa.alloc (.cells #[.int .i32 low, .int .i32 high] 74)) (some ⟨wa.heap.size, 0, none⟩) 1 1 [(low, high)] from ⟨pS.out.2, Rd.more (Rd.new wa 74 2 1 [.int .i32 low, .int .i32 high] rfl) (show wa.heap.size + 1 ≤ (wa.alloc (.cells #[.int .i32 low, .int .i32 high] 74)).heap.size by simp), Nat.le_refl _⟩);have iB := Lib.hid (iO (p := q) 124 (by decide) IG.out C5.out uH.out iz.out qQ.out fy.out ⟨rfl, rfl, rfl, rfl, Nat.lt_of_le_of_lt yM pS.out.1, hk2⟩ EY hjn);go_wp2_with fail;refine iB.out.mono ?_;rintro e w9 ⟨rfl, oL, wD⟩;have qv := Lib.hid oL;clear oL;go_wp2_with fail;exact ⟨qv.out, by rw [gT.out]; exact wD⟩
      have q3 : (r3 == 45) = false := (by rw [beq_eq_false_iff_ne]; exact h3);have HS := Lib.hid (lV Iu.out (by rw [nt]; exact fun h => h3 h.1));clear nt Fe;go_wp2_with fail;refine oC.out.mono ?_;rintro e w8 ⟨rfl, jh, bB⟩;have xC := Lib.hid (lM.out.bJ bB jh);clear jh bB p2 lM oC;have p2 := xC.out.p0;go_wp2_with fail;refine (cJ _ C A n c L j1 q xC.out.wk).mono ?_;rintro en wa ⟨rfl, qd⟩;subst qd;have fy := Lib.hid (kQ.out.trans HS.out);have pS := Lib.hid (qw.out [(low, low)] j1 fy.out);have IG := Lib.hid (xC.out.below ((Below.refl _ _).alloc (Nat.le_refl _) (.cells #[.int .i32 low, .int .i32 low] 74)));have C5 := Lib.hid (show bk (wa.alloc (.cells #[.int .i32 low, .int .i32 low] 74)) (some ⟨wa.heap.size, 0, none⟩) 1 1 [(low, low)] from ⟨pS.out.2, Rd.more (Rd.new wa 74 2 1 [.int .i32 low, .int .i32 low] rfl) (show wa.heap.size + 1 ≤ (wa.alloc (.cells #[.int .i32 low, .int .i32 low] 74)).heap.size by simp), Nat.le_refl _⟩);have iB := Lib.hid (iO (p := q) 124 (by decide) IG.out C5.out uH.out iz.out qQ.out fy.out ⟨rfl, rfl, rfl, rfl, Nat.lt_of_le_of_lt yM pS.out.1, zL⟩ EY hjn);go_wp2_with fail;refine iB.out.mono ?_;rintro e w9 ⟨rfl, oL, wD⟩;have qv := Lib.hid oL;clear oL;go_wp2_with fail;exact ⟨qv.out, by rw [gT.out]; exact wD⟩
   as_aux_lemma =>
    have cF := Lib.hid (fm.out (e, y) bz);have HE := Lib.hid he;have UT := HX.out.wk;cases Gj : (ra == 94) with
    | true =>
     go_wp2_with fail;refine (bE _ C A n c L i0 e y HX.out.wk HE.out).mono ?_;rintro en w5 ⟨rfl, kP⟩;subst kP;go_wp2_with fail;refine (bE _ C A n c L i0 e y HX.out.wk HE.out).mono ?_;rintro en w5 ⟨rfl, kP⟩;subst kP;go_wp2_with fail;go_ret;rw [cF.out];exact HX.out.done g2 ⟨HE.out, _, HX.out.wk⟩
    | false =>
     go_wp2_with fail;refine (bE _ C A n c L i0 e y HX.out.wk HE.out).mono ?_;rintro en w5 ⟨rfl, kP⟩;subst kP;go_wp2_with fail;go_ret;rw [cF.out];exact HX.out.done g2 ⟨HE.out, _, HX.out.wk⟩
end Go.Proofs.YthnhbcohfoodlaaGreatDoor
