/- scriptref3.Walk: Set: the document's reading of a set. -/
import Derived.Test.YthnhbcohfoodlaaGreatDoorRefDoAll
import Derived.Test.YthnhbcohfoodlaaGreatDoorRefCharM
import Derived.Test.YthnhbcohfoodlaaGreatDoorRefClass
import Derived.Test.YthnhbcohfoodlaaGreatDoorCurSet
namespace Go.Proofs.YthnhbcohfoodlaaGreatDoor
open Go.RowKit

theorem WkAt.at {w : World} {C : Nat} {A : Option Addr} {n c : Nat} {L : List Int} {i e p : Int} (h : WkAt w C A n c L i e p) (h0 : 0 < n) :
    ∃ b off, A = some ⟨b, off, none⟩ ∧ b < w.heap.size ∧ ∀ j x, L[j]? = some x → w.cell? ⟨b, off + j, none⟩ = some (.int .i32 x) := by
  obtain ⟨b, off, e, _, hb, hc⟩ := h.row.2 h0
  exact ⟨b, off, e, hb, fun j x hx => hc j _ (by rw [runeCells_at, hx]; rfl)⟩
/-- The text of some runes of the walk's. -/
theorem wk_text {w : World} {C : Nat} {b off n c : Nat} {L : List Int} {k e p : Int} (h : WkAt w C (some ⟨b, off, none⟩) n c L k e p) {i j : Nat} (hij : i ≤ j) (hj : j ≤ n) :
    (convert 61 9 (.slice (if c = i then some ⟨b, off, none⟩ else some ⟨b, off + i, none⟩) (j - i) (c - i))).run Tryz.prog w = .ok (.string (runesBytes (textAt L i j))) w := by
  have hlen := h.len
  have hcap := h.cap
  by_cases hn : 0 < n
  · obtain ⟨b', off', e, _, hc⟩ := h.at hn
    cases e
    have key : ∀ (o : Nat), o = off + i ∨ j - i = 0 → (convert 61 9 (.slice (some ⟨b, o, none⟩) (j - i) (c - i))).run Tryz.prog w = .ok (.string (runesBytes (textAt L i j))) w := by
      intro o ho
      rcases ho with rfl | ho
      · have := run_convert_runes (P := Tryz.prog) w 61 9 21 ⟨b, off + i, none⟩ (j - i) (c - i) (textAt L i j) (by unfold textAt; rw [List.length_take, List.length_drop]; omega) Tryz.underlying61 Tryz.underlying21 Tryz.underlying9 (fun q hq => by
          rw [add_at, Nat.add_assoc]
          unfold textAt at hq ⊢
          rw [List.length_take, List.length_drop] at hq
          refine hc (i + q) _ ?_
          rw [List.getD_eq_getElem?_getD, List.getElem?_take_of_lt (by omega), List.getElem?_drop]
          rw [List.getElem?_eq_getElem (by omega)]
          rfl)
        rw [show (textAt L i j).take (j - i) = textAt L i j from List.take_of_length_le (by unfold textAt; rw [List.length_take]; omega)] at this
        exact this
      · have := run_convert_runes (P := Tryz.prog) w 61 9 21 ⟨b, o, none⟩ (j - i) (c - i) [] (by rw [ho]; simp) Tryz.underlying61 Tryz.underlying21 Tryz.underlying9 (fun q hq => by simp at hq)
        rw [show ([] : List Int).take (j - i) = textAt L i j by unfold textAt; rw [ho]; simp] at this
        exact this
    split
    · exact key _ (.inr (by omega))
    · exact key _ (.inl rfl)
  · have := run_convert_runes (P := Tryz.prog) w 61 9 21 (if c = i then ⟨b, off, none⟩ else ⟨b, off + i, none⟩) (j - i) (c - i) [] (by rw [show j - i = 0 by omega]; simp) Tryz.underlying61 Tryz.underlying21 Tryz.underlying9 (fun q hq => by simp at hq)
    have e : (if c = i then some (⟨b, off, none⟩ : Addr) else some ⟨b, off + i, none⟩) = some (if c = i then (⟨b, off, none⟩ : Addr) else ⟨b, off + i, none⟩) := by split <;> rfl
    rw [show ([] : List Int).take (j - i) = textAt L i j by unfold textAt; rw [show j - i = 0 by omega]; simp] at this
    rw [e]
    exact this

theorem setP_zero {L : List Int} {i : Nat} {e : Int × Nat} (h : needP L i 91 = .error e) : setP' L 0 i = .error e := by
  unfold needP at h
  split at h
  · cases h
  · rename_i hn
    injection h with h
    rw [setP', if_neg hn, h]
theorem needP_num2 {L : List Int} {i : Nat} {r x : Int} {q : Nat} (h : needP L i r = .error (x, q)) : x ≠ 0 := by
  unfold needP at h
  split at h
  · cases h
  · injection h with h
    injection h with h1 h2
    omega
/-- A walk that goes on behind its frame. -/
theorem WkAt.dn {w : World} {C : Nat} {A : Option Addr} {n c : Nat} {L : List Int} {i e p : Int} (h : WkAt w C A n c L i e p) (k : Nat) : WkAt (w.drewN k) C A n c L i e p ∧ But w C (w.drewN k) := ⟨h.drewN k, But.drewN w C k⟩
theorem wk_see (w : World) (C : Nat) (A : Option Addr) (n c : Nat) (L : List Int) (i k : Nat) (p : Int) (h : WkAt w C A n c L i 0 p) (hi : i ≤ n) (hk : k ≤ 1) :
    Calls Tryz.prog 61 #[.pointer (some ⟨C, 0, none⟩), .int .i64 k] w fun e w' => e = .returned (.int .i32 (pk L (i + k))) ∧ WkAt w' C A n c L i 0 p ∧ But w C w' := by
  refine (wk_sees w C A n c L i k p h hi (by omega)).mono ?_
  rintro e w1 ⟨rfl, m, rfl⟩
  exact ⟨rfl, h.drewN m, But.drewN w C m⟩

theorem RdX.butC {w w' : World} {C sz n : Nat} {A : Option Addr} {xs : List Value} (h : RdX w (fun b => C < b) sz A n xs) (hb : But w C w') : RdX w' (fun b => C < b) sz A n xs := h.keep (hb.keeps (fun b (h : C < b) => by omega) (fun b h _ => h))
theorem RfFr.done {w wr : World} {C P G : Nat} {A : Option Addr} {n c : Nat} {L : List Int} {i e q p : Int} {s : Spans} (h : RfFr w C P G A n c L i e q s wr) {B : Option Addr} {m d : Nat} (hG : wr.cell? ⟨G, 0, none⟩ = some (.slice B m d)) {r : Rdg Spans}
    (hm : match r with | .ok (t, j) => s = t ∧ j ≤ n ∧ WkAt wr C A n c L (j : Nat) 0 p | .error (x, q) => x ≠ 0 ∧ ∃ i, WkAt wr C A n c L i x q) : RsPost w C A n c L p r (.returned (.slice B m d)) wr := by
  obtain ⟨B0, m0, d0, h1, h2, h3⟩ := h.set
  rw [h1.cell 0] at hG
  have e2 : Value.slice B0 m0 d0 = .slice B m d := by simpa using hG
  cases e2
  exact ⟨⟨_, _, _, s, rfl, h2.lift (fun b hb => hb.2.2.2), h3, h.right, hm⟩, h.but⟩

set_option maxHeartbeats 6400000 in
set_option maxRecDepth 100000 in
theorem wk_set_zero (dd : Nat) (w : World) (C : Nat) (A : Option Addr) (n c : Nat) (L : List Int) (i : Nat) (p : Int) (hd : 0 + dd = 21) (h : WkAt w C A n c L i 0 p) (hi : i ≤ n) :
    Calls Tryz.prog 42 #[.pointer (some ⟨C, 0, none⟩), .int .i64 dd] w (RsPost w C A n c L p (setP' L 0 i)) := by
  have hdd : decide ((20 : Int) < (dd : Int)) = true := decide_eq_true (by omega)
  have HC0 := Lib.hid (h.keep ((Below.refl w.heap.size w).alloc (Nat.le_refl _) (.cells #[.pointer (some ⟨C, 0, none⟩)] 70)))
  have HB0 := Lib.hid (But.below C ((Below.refl w.heap.size w).alloc (Nat.le_refl _) (.cells #[.pointer (some ⟨C, 0, none⟩)] 70)))
  have HP0 := Lib.hid (Blk.new w 70 #[.pointer (some ⟨C, 0, none⟩)])
  have HCL := Lib.hid h.lt
  have hmf : ∀ (fn : Fn) (first cap : Array Value) (w : World), (Instr.makeFunc fn first cap).run Tryz.prog w = .ok (.func fn first cap) w := fun _ _ _ _ => rfl
  have p0 := HP0.out.cell 0
  have HSE := Lib.hid (wk_see _ C A n c L i 0 p HC0.out hi (Nat.zero_le _))
  obtain ⟨R, hR⟩ : ∃ R, setP' L 0 i = R := ⟨_, rfl⟩
  rw [hR]
  have HR0 := Lib.hid hR
  clear h hR
  -- the end in a bad state, from Must on
  by_cases h91 : pk L i = 91
  · have HRX := Lib.hid (show R = .error (4, i) by rw [← HR0.out, setP', if_pos h91])
    have HSE1 := Lib.hid (show Calls Tryz.prog 61 #[.pointer (some ⟨C, 0, none⟩), .int .i64 0] (w.alloc (.cells #[.pointer (some ⟨C, 0, none⟩)] 70)) fun e w' => e = .returned (.int .i32 91) ∧ WkAt w' C A n c L i 0 p ∧ But (w.alloc (.cells #[.pointer (some ⟨C, 0, none⟩)] 70)) C w' by have := HSE.out; rwa [show pk L (i + 0) = 91 from h91] at this)
    clear h91 HSE
    go_enter Tryz.func42, Tryz.ntmps42
    go_wp2_with fail
    refine HSE1.out.mono ?_
    rintro e w0 ⟨rfl, hc0, hb0⟩
    have HP1 := Lib.hid ((hb0.2.2.2.2 w.heap.size HP0.out.lt (by have := HCL.out; omega)).trans HP0.out)
    have HB1 := Lib.hid (HB0.out.trans hb0)
    clear HC0
    have HC0 := Lib.hid hc0
    clear p0 hc0 hb0 HP0 HB0 HSE1
    have p0 := (show Blk w0 w.heap.size 70 #[.pointer (some ⟨C, 0, none⟩)] from HP1.out).cell 0
    have k1 := HC0.out.c1
    go_upto_region 2 with fail
    refine wp_region_till (S := (fun w' => w'.cell? ⟨w.heap.size, 0, none⟩ = some (.pointer (some ⟨C, 0, none⟩)) ∧ w'.cell? ⟨C, 1, none⟩ = some (.int .i64 i))) [0, 1, 4] (by kernel_rfl) ⟨p0, k1⟩ (fun hHeld => ?_)
    refine wpTill_take (i := 0) (oi := ⟨some 21, _, _, _, _, _⟩) (v := ?_) rfl (by kernel_rfl) (by kernel_rfl) (by kernel_rfl) (by kernel_rfl) (by kernel_rfl) (fun _ _ _ h => h) (Or.inl ⟨by rfl, ?_⟩) (by assumption) ?_
    rotate_left 1
    · intro wq hSw
      (try dsimp only at hSw)
      go_simp
      try with_reducible rfl
    try simp only [Act.put, List.setIfInBounds_toArray, List.set_cons_zero, List.set_cons_succ]
    refine wpTill_take (i := 1) (oi := ⟨some 22, _, _, _, _, _⟩) (v := ?_) rfl (by kernel_rfl) (by kernel_rfl) (by kernel_rfl) (by kernel_rfl) (by kernel_rfl) (fun _ _ _ h => h) (Or.inl ⟨by rfl, ?_⟩) (by assumption) ?_
    rotate_left 1
    · intro wq hSw
      (try dsimp only at hSw)
      go_simp
      try with_reducible rfl
    try simp only [Act.put, List.setIfInBounds_toArray, List.set_cons_zero, List.set_cons_succ]
    refine wpTill_pure (i := 2) (oi := ⟨some 23, _, _, _, _, _⟩) (v := ?_) rfl (by kernel_rfl) (by kernel_rfl) (by kernel_rfl) (fun _ _ _ h => h) (Or.inl ⟨by rfl, ?_⟩) ?_
    rotate_left 1
    · intro wq _
      go_simp
      try with_reducible rfl
    try simp only [Act.put, List.setIfInBounds_toArray, List.set_cons_zero, List.set_cons_succ]
    refine wpTill_pure (i := 3) (oi := ⟨some 24, _, _, _, _, _⟩) (v := ?_) rfl (by kernel_rfl) (by kernel_rfl) (by kernel_rfl) (fun _ _ _ h => h) (Or.inl ⟨by rfl, ?_⟩) ?_
    rotate_left 1
    · intro wq _
      go_simp
      try with_reducible rfl
    try simp only [Act.put, List.setIfInBounds_toArray, List.set_cons_zero, List.set_cons_succ]
    refine wpTill_take (i := 4) (oi := ⟨some 25, _, _, _, _, _⟩) (v := ?_) rfl (by kernel_rfl) (by kernel_rfl) (by kernel_rfl) (by kernel_rfl) (by kernel_rfl) (fun _ _ _ h => h) (Or.inl ⟨by rfl, ?_⟩) (by assumption) ?_
    rotate_left 1
    · intro wq hSw
      (try dsimp only at hSw)
      go_simp
      try with_reducible rfl
    try simp only [Act.put, List.setIfInBounds_toArray, List.set_cons_zero, List.set_cons_succ]
    refine wpTill_late (i := 5) (o := ⟨some 26, _, _, _, _, _⟩) (by kernel_rfl) rfl (by kernel_rfl) (fun K hK => ?_)
    go_simp
    go_at_call 44
    refine (wk_stop _ C A n c L i p 4 i (HC0.out.drewN 1)).mono ?_
    rintro e w1 ⟨rfl, hc1, hb1⟩
    try dsimp only
    refine hK.out _ _ ?_
    clear hK K
    try simp only [Act.put, List.setIfInBounds_toArray, List.set_cons_zero, List.set_cons_succ]
    refine wpTill_done (by kernel_rfl) ?_ _
    have HC1 := Lib.hid hc1
    have hdb := (But.drewN w0 C 1).trans hb1
    have HP2 := Lib.hid (show Blk w1 w.heap.size 70 #[.pointer (some ⟨C, 0, none⟩)] from (hdb.2.2.2.2 w.heap.size (show Blk w0 w.heap.size 70 #[.pointer (some ⟨C, 0, none⟩)] from HP1.out).lt (by have := HCL.out; omega)).trans HP1.out)
    have HB2 := Lib.hid (HB1.out.trans hdb)
    clear hc1 hb1 hdb p0 k1
    have p0 := HP2.out.cell 0
    go_simp
    go_wp2_with fail
    refine (wk_must_bad _ C A n c L i 4 i 91 HC1.out (by decide) (by decide)).mono ?_
    rintro e w2 ⟨rfl, hc2, hb2⟩
    have HC2 := Lib.hid hc2
    have HP3 := Lib.hid (show Blk w2 w.heap.size 70 #[.pointer (some ⟨C, 0, none⟩)] from (hb2.2.2.2.2 w.heap.size HP2.out.lt (by have := HCL.out; omega)).trans HP2.out)
    have HB3 := Lib.hid (HB2.out.trans hb2)
    clear hc2 hb2 p0
    have p0 := HP3.out.cell 0
    go_wp2_with fail
    refine (wk_blind _ C A n c L i 4 i 0 HC2.out (by decide)).mono ?_
    rintro e w3 ⟨rfl, hc3, hb3⟩
    have HC3 := Lib.hid (hc3.keep ((Below.refl w3.heap.size w3).alloc (Nat.le_refl _) (.cells #[.slice none 0 0] 22)))
    have HP4 := Lib.hid (show Blk w3 w.heap.size 70 #[.pointer (some ⟨C, 0, none⟩)] from (hb3.2.2.2.2 w.heap.size HP3.out.lt (by have := HCL.out; omega)).trans HP3.out)
    have HB4 := Lib.hid (HB3.out.trans (hb3.trans (But.below C ((Below.refl w3.heap.size w3).alloc (Nat.le_refl _) (.cells #[.slice none 0 0] 22)))))
    have HG4 := Lib.hid (Blk.new w3 22 #[.slice none 0 0])
    clear hc3 hb3 p0
    have p0 := (HP4.out.alloc (.cells #[.slice none 0 0] 22)).cell 0
    have g0 := HG4.out.cell 0
    go_wp2_with fail
    go_loopw [8] (fun _ wr => wr = w3.alloc (.cells #[.slice none 0 0] 22)) (fun _ _ => 0)
    case atStart => rfl
    case round =>
      subst hrel
      go_wp2_with fail
      refine (wk_good_no _ C A n c L i 4 i HC3.out (by decide)).mono ?_
      rintro e w5 ⟨rfl, hw5⟩
      subst hw5
      go_wp2_with fail
      go_ret
      rw [HRX.out]
      exact ⟨⟨none, 0, 0, [], rfl, ⟨rfl, fun h => absurd h (by omega)⟩, Nat.le_refl _, right_nil, by decide, _, HC3.out⟩, HB4.out⟩
  · have hq91 : (pk L i == 91) = false := by rw [beq_eq_false_iff_ne]; exact h91
    have HNE := Lib.hid (show needP L i 91 = .error (2, i) by unfold needP; rw [if_neg h91])
    have HRX := Lib.hid (show R = .error (2, i) from HR0.out.symm.trans (setP_zero HNE.out))
    clear h91
    go_enter Tryz.func42, Tryz.ntmps42
    go_wp2_with fail
    refine HSE.out.mono ?_
    rintro e w1 ⟨rfl, hc1, hb1⟩
    have HC1 := Lib.hid hc1
    have HP2 := Lib.hid (show Blk w1 w.heap.size 70 #[.pointer (some ⟨C, 0, none⟩)] from (hb1.2.2.2.2 w.heap.size HP0.out.lt (by have := HCL.out; omega)).trans HP0.out)
    have HB2 := Lib.hid (HB0.out.trans hb1)
    have HMU := Lib.hid (show Calls Tryz.prog 63 #[.pointer (some ⟨C, 0, none⟩), .int .i32 91] w1 fun en w' => en = .returned (.tuple #[]) ∧ WkR w1 C A n c L p (.error (2, i)) w' by have := wk_must w1 C A n c L i p 91 hc1 hi (by decide); rwa [HNE.out] at this)
    clear hc1 hb1 p0
    have p0 := HP2.out.cell 0
    go_wp2_with fail
    refine HMU.out.mono ?_
    rintro e w2 ⟨rfl, ⟨_, i2, hc2⟩, hb2⟩
    have HC2 := Lib.hid hc2
    have HP3 := Lib.hid (show Blk w2 w.heap.size 70 #[.pointer (some ⟨C, 0, none⟩)] from (hb2.2.2.2.2 w.heap.size HP2.out.lt (by have := HCL.out; omega)).trans HP2.out)
    have HB3 := Lib.hid (HB2.out.trans hb2)
    clear hc2 hb2 p0
    have p0 := HP3.out.cell 0
    go_wp2_with fail
    refine (wk_blind _ C A n c L i2 2 i 0 HC2.out (by decide)).mono ?_
    rintro e w3 ⟨rfl, hc3, hb3⟩
    have HC3 := Lib.hid (hc3.keep ((Below.refl w3.heap.size w3).alloc (Nat.le_refl _) (.cells #[.slice none 0 0] 22)))
    have HP4 := Lib.hid (show Blk w3 w.heap.size 70 #[.pointer (some ⟨C, 0, none⟩)] from (hb3.2.2.2.2 w.heap.size HP3.out.lt (by have := HCL.out; omega)).trans HP3.out)
    have HB4 := Lib.hid (HB3.out.trans (hb3.trans (But.below C ((Below.refl w3.heap.size w3).alloc (Nat.le_refl _) (.cells #[.slice none 0 0] 22)))))
    have HG4 := Lib.hid (Blk.new w3 22 #[.slice none 0 0])
    clear hc3 hb3 p0
    have p0 := (HP4.out.alloc (.cells #[.slice none 0 0] 22)).cell 0
    have g0 := HG4.out.cell 0
    go_wp2_with fail
    go_loopw [8] (fun _ wr => wr = w3.alloc (.cells #[.slice none 0 0] 22)) (fun _ _ => 0)
    case atStart => rfl
    case round =>
      subst hrel
      go_wp2_with fail
      refine (wk_good_no _ C A n c L i2 2 i HC3.out (by decide)).mono ?_
      rintro e w5 ⟨rfl, hw5⟩
      subst hw5
      go_wp2_with fail
      go_ret
      rw [HRX.out]
      exact ⟨⟨none, 0, 0, [], rfl, ⟨rfl, fun h => absurd h (by omega)⟩, Nat.le_refl _, right_nil, by decide, _, HC3.out⟩, HB4.out⟩

set_option maxHeartbeats 6400000 in
set_option maxRecDepth 100000 in
theorem wk_set_err (lv : Nat) (dd : Nat) (w : World) (C : Nat) (A : Option Addr) (n c : Nat) (L : List Int) (i : Nat) (p : Int) (x : Int) (q : Nat) (hnd : needP L i 91 = .error (x, q)) (hd : lv + 1 + dd = 21) (h : WkAt w C A n c L i 0 p) (hi : i ≤ n) :
    Calls Tryz.prog 42 #[.pointer (some ⟨C, 0, none⟩), .int .i64 dd] w (RsPost w C A n c L p (setP' L (lv + 1) i)) := by
  have hdd : decide ((20 : Int) < (dd : Int)) = false := decide_eq_false (by omega)
  have hmf : ∀ (fn : Fn) (first cap : Array Value) (w : World), (Instr.makeFunc fn first cap).run Tryz.prog w = .ok (.func fn first cap) w := fun _ _ _ _ => rfl
  have HC0 := Lib.hid (h.keep ((Below.refl w.heap.size w).alloc (Nat.le_refl _) (.cells #[.pointer (some ⟨C, 0, none⟩)] 70)))
  have HB0 := Lib.hid (But.below C ((Below.refl w.heap.size w).alloc (Nat.le_refl _) (.cells #[.pointer (some ⟨C, 0, none⟩)] 70)))
  have HP0 := Lib.hid (Blk.new w 70 #[.pointer (some ⟨C, 0, none⟩)])
  have HCL := Lib.hid h.lt
  obtain ⟨R, hR⟩ : ∃ R, setP' L (lv + 1) i = R := ⟨_, rfl⟩
  rw [hR]
  have HR0 := Lib.hid hR
  clear hR h
  have HMU := Lib.hid (wk_must _ C A n c L i p 91 HC0.out hi (by decide))
  rw [hnd] at HMU
  have HRX := Lib.hid (HR0.out.symm.trans (setP_e1 hnd))
  have HX0 := Lib.hid (needP_num2 hnd)
  clear hnd
  go_enter Tryz.func42, Tryz.ntmps42
  have p0 := HP0.out.cell 0
  go_wp2_with fail
  refine HMU.out.mono ?_
  rintro e w2 ⟨rfl, ⟨_, i2, hc2⟩, hb2⟩
  have HC2 := Lib.hid hc2
  have HP3 := Lib.hid (show Blk w2 w.heap.size 70 #[.pointer (some ⟨C, 0, none⟩)] from (hb2.2.2.2.2 w.heap.size HP0.out.lt (by have := HCL.out; omega)).trans HP0.out)
  have HB3 := Lib.hid (HB0.out.trans hb2)
  clear hc2 hb2 p0
  have p0 := HP3.out.cell 0
  go_wp2_with fail
  refine (wk_blind _ C A n c L i2 x q 0 HC2.out HX0.out).mono ?_
  rintro e w3 ⟨rfl, hc3, hb3⟩
  have HC3 := Lib.hid (hc3.keep ((Below.refl w3.heap.size w3).alloc (Nat.le_refl _) (.cells #[.slice none 0 0] 22)))
  have HP4 := Lib.hid (show Blk w3 w.heap.size 70 #[.pointer (some ⟨C, 0, none⟩)] from (hb3.2.2.2.2 w.heap.size HP3.out.lt (by have := HCL.out; omega)).trans HP3.out)
  have HB4 := Lib.hid (HB3.out.trans (hb3.trans (But.below C ((Below.refl w3.heap.size w3).alloc (Nat.le_refl _) (.cells #[.slice none 0 0] 22)))))
  have HG4 := Lib.hid (Blk.new w3 22 #[.slice none 0 0])
  clear hc3 hb3 p0
  have p0 := (HP4.out.alloc (.cells #[.slice none 0 0] 22)).cell 0
  have g0 := HG4.out.cell 0
  go_wp2_with fail
  go_loopw [8] (fun _ wr => wr = w3.alloc (.cells #[.slice none 0 0] 22)) (fun _ _ => 0)
  case atStart => rfl
  case round =>
    subst hrel
    go_wp2_with fail
    refine (wk_good_no _ C A n c L i2 x q HC3.out HX0.out).mono ?_
    rintro e w5 ⟨rfl, hw5⟩
    subst hw5
    go_wp2_with fail
    go_ret
    rw [HRX.out]
    exact ⟨⟨none, 0, 0, [], rfl, ⟨rfl, fun h => absurd h (by omega)⟩, Nat.le_refl _, right_nil, HX0.out, _, HC3.out⟩, HB4.out⟩

set_option maxHeartbeats 25600000 in
set_option maxRecDepth 100000 in
theorem wk_set (lv : Nat) : ∀ (dd : Nat) (w : World) (C : Nat) (A : Option Addr) (n c : Nat) (L : List Int) (i : Nat) (p : Int), lv + dd = 21 → 1 ≤ dd → WkAt w C A n c L i 0 p → i ≤ n → ValidL L → n ≤ 100000 →
    Calls Tryz.prog 42 #[.pointer (some ⟨C, 0, none⟩), .int .i64 dd] w (RsPost w C A n c L p (setP' L lv i)) := by
  induction lv with
  | zero =>
    intro dd w C A n c L i p hd _ h hi _ _
    exact wk_set_zero dd w C A n c L i p hd h hi
  | succ lv ih =>
    intro dd w C A n c L i p hd hd1 h hi hL hn
    have hs := h.size
    have hlen := h.len
    have HL := Lib.hid hL
    have hdc : ((dd + 1 : Nat) : Int) = (dd : Int) + 1 := by omega
    have HIH := Lib.hid (fun (W : World) (k : Nat) (hk : k ≤ n) (hc : WkAt W C A n c L k 0 p) => show Calls Tryz.prog 42 #[.pointer (some ⟨C, 0, none⟩), .int .i64 ((dd : Int) + 1)] W (RsPost W C A n c L p (setP' L lv k)) by have := ih (dd + 1) W C A n c L k p (by omega) (by omega) hc hk hL hn; rwa [hdc] at this)
    have hwd : IntKind.i64.wrap ((dd : Int) + 1) = (dd : Int) + 1 := wrap_small _ (by omega) (by omega)
    clear hdc
    have HSE := Lib.hid (fun (W : World) (k : Nat) (h : WkAt W C A n c L k 0 p) (hk : k ≤ n) => show Calls Tryz.prog 61 #[.pointer (some ⟨C, 0, none⟩), .int .i64 0] W fun e w' => e = .returned (.int .i32 (pk L k)) ∧ WkAt w' C A n c L k 0 p ∧ But W C w' from wk_see W C A n c L k 0 p h hk (Nat.zero_le _))
    have HSE1 := Lib.hid (fun (W : World) (k : Nat) (h : WkAt W C A n c L k 0 p) (hk : k ≤ n) => show Calls Tryz.prog 61 #[.pointer (some ⟨C, 0, none⟩), .int .i64 1] W fun e w' => e = .returned (.int .i32 (pk L (k + 1))) ∧ WkAt w' C A n c L k 0 p ∧ But W C w' from wk_see W C A n c L k 1 p h hk (Nat.le_refl _))
    have hdd : decide ((20 : Int) < (dd : Int)) = false := decide_eq_false (by omega)
    have hmf : ∀ (fn : Fn) (first cap : Array Value) (w : World), (Instr.makeFunc fn first cap).run Tryz.prog w = .ok (.func fn first cap) w := fun _ _ _ _ => rfl
    have HC0 := Lib.hid (h.keep ((Below.refl w.heap.size w).alloc (Nat.le_refl _) (.cells #[.pointer (some ⟨C, 0, none⟩)] 70)))
    have HB0 := Lib.hid (But.below C ((Below.refl w.heap.size w).alloc (Nat.le_refl _) (.cells #[.pointer (some ⟨C, 0, none⟩)] 70)))
    have HP0 := Lib.hid (Blk.new w 70 #[.pointer (some ⟨C, 0, none⟩)])
    have HCL := Lib.hid h.lt
    obtain ⟨R, hR⟩ : ∃ R, setP' L (lv + 1) i = R := ⟨_, rfl⟩
    rw [hR]
    have HR0 := Lib.hid hR
    have HH := Lib.hid h
    clear h hL ih
    cases hnd0 : needP L i 91 with
    | error e0 =>
      obtain ⟨x, q⟩ := e0
      rw [← hR]
      exact wk_set_err lv dd w C A n c L i p x q hnd0 hd HH.out hi
    | ok a0 =>
    clear HH hR
    have HMU := Lib.hid (wk_must _ C A n c L i p 91 HC0.out hi (by decide))
    cases hnd : needP L i 91 with
    | error e0 => rw [hnd] at hnd0; cases hnd0
    | ok a =>
      rw [hnd] at HMU
      have HND := Lib.hid hnd
      have ha : a = i + 1 := (needP_ok hnd).1
      clear hnd
      obtain ⟨ra, hra⟩ : ∃ ra, pk L a = ra := ⟨_, rfl⟩
      have HRA := Lib.hid hra
      obtain ⟨st, hst⟩ : ∃ st, (if pk L a = 94 then a + 1 else a) = st := ⟨_, rfl⟩
      obtain ⟨Rp, hRp⟩ : ∃ Rp, partsP (setP' L lv) L (L.length + 1) st [] = Rp := ⟨_, rfl⟩
      have HRP := Lib.hid hRp
      have HERR := Lib.hid (fun (e : Int × Nat) (he : Rp = .error e) => show R = .error e from HR0.out.symm.trans (setP_e2 HND.out (by rw [hst, hRp]; exact he)))
      have HDONE := Lib.hid (fun (s : Spans) (k : Nat) (he : Rp = .ok (s, k)) => show R = if ra = 94 then (if (opP 94 s []).2 ≠ 0 then .error ((opP 94 s []).2, k) else .ok ((opP 94 s []).1, k)) else .ok (s, k) by have := HR0.out.symm.trans (setP_k HND.out (by rw [hst, hRp]; exact he)); rw [hra] at this; exact this)
      rw [hra] at hst
      clear hRp ha
      go_enter Tryz.func42, Tryz.ntmps42
      have p0 := HP0.out.cell 0
      go_wp2_with fail
      refine HMU.out.mono ?_
      rintro e w1 ⟨rfl, ⟨hale, hc1⟩, hb1⟩
      have HC1 := Lib.hid hc1
      have HB1 := Lib.hid (HB0.out.trans hb1)
      have HP1 := Lib.hid (show Blk w1 w.heap.size 70 #[.pointer (some ⟨C, 0, none⟩)] from (hb1.2.2.2.2 w.heap.size HP0.out.lt (by have := HCL.out; omega)).trans HP0.out)
      clear hc1 hb1 p0
      have HSA := Lib.hid (show Calls Tryz.prog 61 #[.pointer (some ⟨C, 0, none⟩), .int .i64 0] w1 fun e w' => e = .returned (.int .i32 ra) ∧ WkAt w' C A n c L a 0 p ∧ But w1 C w' by have := HSE.out w1 a HC1.out hale; rwa [hra] at this)
      have p0 := HP1.out.cell 0
      go_wp2_with fail
      refine HSA.out.mono ?_
      rintro e w2 ⟨rfl, hc2, hb2⟩
      have HC2 := Lib.hid hc2
      have HB2 := Lib.hid (HB1.out.trans hb2)
      have HP2 := Lib.hid (show Blk w2 w.heap.size 70 #[.pointer (some ⟨C, 0, none⟩)] from (hb2.2.2.2.2 w.heap.size HP1.out.lt (by have := HCL.out; omega)).trans HP1.out)
      clear hc2 hb2 p0
      have p0 := HP2.out.cell 0
      have k2 := HC2.out.c1
      have f2 := HC2.out.fz 1
      have hw1 : IntKind.i64.wrap ((a : Int) + 1) = (a : Int) + 1 := wrap_small _ (by omega) (by omega)
      go_upto_if 32 with fail
      go_cut [] (fun wx => st ≤ n ∧ WkAt wx C A n c L st 0 p ∧ But w C wx ∧ Blk wx w.heap.size 70 #[.pointer (some ⟨C, 0, none⟩)])
      case first =>
        by_cases h94 : ra = 94
        · subst h94
          rw [if_pos rfl] at hst
          subst hst
          have hlt : a < n := by rw [← hlen]; exact pk_lt (by omega)
          obtain ⟨d1, d2, d3, d4⟩ := HC2.out.step
          have HC3 := Lib.hid (show WkAt (w2.setCell ⟨C, 1, none⟩ (.int .i64 ((a : Int) + 1))) C A n c L ((a + 1 : Nat) : Int) 0 p by rw [show ((a + 1 : Nat) : Int) = (a : Int) + 1 by omega]; exact d3)
          have HB3 := Lib.hid (HB2.out.trans d4)
          have HP3 := Lib.hid (show Blk (w2.setCell ⟨C, 1, none⟩ (.int .i64 ((a : Int) + 1))) w.heap.size 70 #[.pointer (some ⟨C, 0, none⟩)] from (d4.2.2.2.2 w.heap.size HP2.out.lt (by have := HCL.out; omega)).trans HP2.out)
          clear d3 d4 hra
          go_wp2_with fail
          go_meet
          exact ⟨hlt, HC3.out, HB3.out, HP3.out⟩
        · rw [if_neg h94] at hst
          have hq : (ra == 94) = false := by simp; exact h94
          subst hst
          clear hra
          go_wp2_with fail
          go_meet
          exact ⟨hale, HC2.out, HB2.out, HP2.out⟩
      case rest =>
        obtain ⟨wz, hwz⟩ : ∃ wz, wz = wc := ⟨_, rfl⟩
        subst hwz
        obtain ⟨hstn, hcc, hbc, hpc⟩ := hcut
        have HW0 := Lib.hid (show RfFr w C w.heap.size wz.heap.size A n c L st 0 p [] (wz.alloc (.cells #[.slice none 0 0] 22)) from by
          have hb := (Below.refl wz.heap.size wz).alloc (Nat.le_refl _) (.cells #[.slice none 0 0] 22)
          exact ⟨hcc.keep hb, Blk.alloc hpc _, ⟨none, 0, 0, Blk.new _ _ _, ⟨rfl, fun h => absurd h (by omega)⟩, Nat.le_refl _⟩, right_nil, hbc.trans (But.below C hb), HCL.out, Nat.le_refl _, hbc.1, by have := hpc.lt; omega⟩)
        have p1 := HW0.out.p0
        clear hcc hbc hpc p0 HC2 HB2 HP2 HC1 HB1 HP1 HC0 HB0 HP0 HMU HSA hst hra k2 f2 hw1
        go_wp2_with fail
        go_loopw [8] (fun _ wr => RsLp w C w.heap.size wz.heap.size A n c L p (setP' L lv) Rp wr) (fun _ wr => RsM C n wr)
        case atStart => exact ⟨st, 0, p, [], HW0.out, .inl ⟨rfl, rfl, L.length + 1, st, rfl, hstn, by omega, HRP.out.symm⟩⟩
        case round =>
          obtain ⟨i0, e, q, s, hfr, hor⟩ := hrel
          have p2 := hfr.p0
          obtain ⟨Bn, mn, dn, g2, gf2, hga⟩ := hfr.now
          have HGA := Lib.hid hga
          have HX := Lib.hid hfr
          clear hfr hga
          rcases hor with ⟨rfl, rfl, f0, j, rfl, hjn, hf0, hgo⟩ | ⟨he, y, rfl, hgo⟩
          · obtain ⟨f, rfl⟩ : ∃ f, f0 = f + 1 := ⟨f0 - 1, by omega⟩
            have HGO := Lib.hid hgo
            have HM0 := Lib.hid (RsM.good HX.out.wk)
            obtain ⟨k, hk⟩ : ∃ k, skipP L j = k := ⟨_, rfl⟩
            have HK := Lib.hid hk
            have hkn : k ≤ n := by rw [← hk, ← hlen]; exact (runFrom_le (by omega)).2
            have hjk : j ≤ k := by rw [← hk]; exact skipP_ge L j
            obtain ⟨r, hr⟩ : ∃ r, pk L k = r := ⟨_, rfl⟩
            have HRK := Lib.hid hr
            have HPOK := Lib.hid (fun (t : Spans) (j2 : Nat) (h : partP' (setP' L lv) L (skipP L j) = .ok (t, j2)) => show k < j2 ∧ RightSet t by rw [hk] at h; exact partP_ok (setP_ok HL.out.ok lv) HL.out.ok h)
            have hkr : r ≠ -1 → k < n := fun h => by rw [← hlen]; exact pk_lt (by rw [hr]; exact h)
            clear hgo
            go_wp2_with fail
            refine (wk_good_yes _ C A n c L j q HX.out.wk).mono ?_
            rintro e w3 ⟨rfl, hw3⟩
            subst hw3
            go_wp2_with fail
            refine (wk_blanks _ C A n c L j q HX.out.wk hjn).mono ?_
            rintro e w4 ⟨rfl, hc4, hb4⟩
            rw [hk] at hc4
            have HX4 := Lib.hid (HX.out.keepB hb4 hc4)
            clear hc4 hb4 p2 g2 gf2 hk HGA
            have p2 := HX4.out.p0
            go_wp2_with fail
            refine (HSE.out _ k HX4.out.wk hkn).mono ?_
            rintro e w5 ⟨rfl, hc5, hb5⟩
            have HX5 := Lib.hid (HX4.out.keepB hb5 hc5)
            clear hc5 hb5 p2 HX4 HX
            rw [hr]
            clear hr
            have p2 := HX5.out.p0
            have hwk1 : IntKind.i64.wrap ((k : Int) + 1) = (k : Int) + 1 := wrap_small _ (by omega) (by omega)
            have hwk2 : IntKind.i64.wrap ((k : Int) + 2) = (k : Int) + 2 := wrap_small _ (by omega) (by omega)
            obtain ⟨s1, s2, s3, s4⟩ := HX5.out.wk.step
            have HX6 := Lib.hid (show RfFr w C w.heap.size wz.heap.size A n c L ((k + 1 : Nat) : Int) 0 q s (w5.setCell ⟨C, 1, none⟩ (.int .i64 ((k : Int) + 1))) by rw [show ((k + 1 : Nat) : Int) = (k : Int) + 1 by omega]; exact HX5.out.keepB s4 s3)
            clear s3 s4
            by_cases h93 : r = 93
            ·
              as_aux_lemma =>
                have HEND := Lib.hid (show Rp = .ok (s, k + 1) by rw [HGO.out, partsP_end (by rw [HK.out, HRK.out]; exact h93), HK.out])
                have HRX := Lib.hid (HDONE.out s (k + 1) HEND.out)
                have hklt := hkr (by omega)
                subst h93
                have p6 := HX6.out.p0
                obtain ⟨B6, m6, d6, g6, gf6, hg6⟩ := HX6.out.now
                have HG6 := Lib.hid hg6
                clear hg6
                by_cases h94 : ra = 94
                · have hq94 : (ra == 94) = true := by simp; exact h94
                  have hrx := HRX.out
                  rw [if_pos h94] at hrx
                  have HRX2 := Lib.hid hrx
                  have HTN := Lib.hid (show RightSet (opP 94 s []).1 from op_right 94 HX6.out.right right_nil)
                  clear hrx h94
                  go_wp2_with fail
                  refine (wk_good_yes _ C A n c L ((k + 1 : Nat) : Int) q HX6.out.wk).mono ?_
                  rintro e w7 ⟨rfl, hw7⟩
                  subst hw7
                  go_wp2_with fail
                  refine (do_good 94 (by decide) w _ C w.heap.size wz.heap.size A none n c 0 0 L ((k + 1 : Nat) : Int) q s [] HX6.out ⟨right_nil, ⟨rfl, fun h => absurd h (by omega)⟩, Nat.le_refl _⟩).mono ?_
                  rintro e w8 ⟨rfl, ⟨h0, hf8⟩ | ⟨h0, hf8⟩⟩
                  · rw [if_neg (fun h => h h0)] at HRX2
                    have HF8 := Lib.hid hf8
                    obtain ⟨B8, m8, d8, g8, _, _⟩ := hf8.now
                    clear h0 hf8
                    go_wp2_with fail
                    go_ret
                    rw [HRX2.out]
                    exact HF8.out.done g8 ⟨rfl, by omega, HF8.out.wk⟩
                  · rw [if_pos h0] at HRX2
                    have HF8 := Lib.hid hf8
                    have H0 := Lib.hid h0
                    obtain ⟨B8, m8, d8, g8, _, _⟩ := hf8.now
                    clear h0 hf8
                    go_wp2_with fail
                    go_ret
                    rw [HRX2.out]
                    exact HF8.out.done g8 ⟨H0.out, _, HF8.out.wk⟩
                · have hq94 : (ra == 94) = false := by simp; exact h94
                  have hrx := HRX.out
                  rw [if_neg h94] at hrx
                  have HRX2 := Lib.hid hrx
                  clear hrx
                  go_wp2_with fail
                  go_ret
                  rw [HRX2.out]
                  exact HX6.out.done g6 ⟨rfl, by omega, HX6.out.wk⟩
            · have hq93 : (r == 93) = false := by rw [beq_eq_false_iff_ne]; exact h93
              have H93 := Lib.hid (show pk L (skipP L j) ≠ 93 by rw [HK.out, HRK.out]; exact h93)
              by_cases h91 : r = 91
              · obtain ⟨r2, hr2⟩ : ∃ r2, pk L (k + 1) = r2 := ⟨_, rfl⟩
                have HR2K := Lib.hid hr2
                have OPR := Lib.hid (show opOf (pk L (skipP L j)) = 124 by rw [HK.out, HRK.out, h91]; rfl)
                have hklt := hkr (by omega)
                subst h91
                by_cases h58 : r2 = 58
                · have hk2n : k + 2 ≤ n := by have := pk_lt (L := L) (i := k + 1) (by omega); omega
                  have HPP := Lib.hid (show partP' (setP' L lv) L (skipP L j) = classP L k by rw [HK.out]; exact part_class HRK.out (by rw [HR2K.out]; exact h58))
                  subst h58
                  as_aux_lemma =>
                    obtain ⟨b, off, rfl, _, _⟩ := HX5.out.wk.at (by omega)
                    have heqn : ∀ (W : World) (x : Option Addr) (y z : Nat), (binOp .eql 22 (.slice x y z) (.slice none 0 0)).run Tryz.prog W = .ok (.bool x.isNone) W := fun W x y z => Lib.run_eql_slice_nil W _ _ x y z 0 0 Tryz.underlying22
                    obtain ⟨a, ha⟩ : ∃ a, k + 2 = a := ⟨_, rfl⟩
                    have haI : (k : Int) + 2 = (a : Int) := by omega
                    have HA := Lib.hid ha
                    rw [haI] at hwk2
                    obtain ⟨rr, hrr⟩ : ∃ rr, runFrom plainB L (k + 2) = rr := ⟨_, rfl⟩
                    have HRR := Lib.hid hrr
                    have han : a ≤ n := by omega
                    clear hrr
                    go_wp2_with fail
                    refine (HSE1.out _ k HX5.out.wk hkn).mono ?_
                    rintro e w7 ⟨rfl, hc7, hb7⟩
                    have HX7 := Lib.hid (HX5.out.keepB hb7 hc7)
                    clear hc7 hb7 p2 HX6 s1 s2
                    rw [hr2]
                    clear hr2 HX5
                    have p6 := HX7.out.p0
                    have k6 := HX7.out.wk.c1
                    have f6 := HX7.out.wk.fz 1
                    have HX8 := Lib.hid (show RfFr w C w.heap.size wz.heap.size (some ⟨b, off, none⟩) n c L (a : Int) 0 q s (w7.setCell ⟨C, 1, none⟩ (.int .i64 (a : Int))).drew from by
                      exact (HX7.out.keepB (But.set w7 C 1 (.int .i64 (a : Int))) (HX7.out.wk.put1 (a : Int))).below (below_drew1 (Below.refl _ _)))
                    go_upto_region 25 with fail
                    refine wp_region_till (S := (fun w' => w'.cell? ⟨w.heap.size, 0, none⟩ = some (.pointer (some ⟨C, 0, none⟩)) ∧ w'.cell? ⟨C, 1, none⟩ = some (.int .i64 k))) [0, 1, 4] (by kernel_rfl) ⟨p6, k6⟩ (fun hHeld => ?_)
                    refine wpTill_take (i := 0) (oi := ⟨some 102, _, _, _, _, _⟩) (v := ?_) rfl (by kernel_rfl) (by kernel_rfl) (by kernel_rfl) (by kernel_rfl) (by kernel_rfl) (fun _ _ _ h => h) (Or.inl ⟨by rfl, ?_⟩) (by assumption) ?_
                    rotate_left 1
                    · intro wq hSw
                      (try dsimp only at hSw)
                      go_simp
                      try with_reducible rfl
                    try simp only [Act.put, List.setIfInBounds_toArray, List.set_cons_zero, List.set_cons_succ]
                    refine wpTill_take (i := 1) (oi := ⟨some 103, _, _, _, _, _⟩) (v := ?_) rfl (by kernel_rfl) (by kernel_rfl) (by kernel_rfl) (by kernel_rfl) (by kernel_rfl) (fun _ _ _ h => h) (Or.inl ⟨by rfl, ?_⟩) (by assumption) ?_
                    rotate_left 1
                    · intro wq hSw
                      (try dsimp only at hSw)
                      go_simp
                      try with_reducible rfl
                    try simp only [Act.put, List.setIfInBounds_toArray, List.set_cons_zero, List.set_cons_succ]
                    refine wpTill_pure (i := 2) (oi := ⟨some 104, _, _, _, _, _⟩) (v := ?_) rfl (by kernel_rfl) (by kernel_rfl) (by kernel_rfl) (fun _ _ _ h => h) (Or.inl ⟨by rfl, ?_⟩) ?_
                    rotate_left 1
                    · intro wq _
                      go_simp
                      try with_reducible rfl
                    try simp only [Act.put, List.setIfInBounds_toArray, List.set_cons_zero, List.set_cons_succ]
                    refine wpTill_pure (i := 3) (oi := ⟨some 105, _, _, _, _, _⟩) (v := ?_) rfl (by kernel_rfl) (by kernel_rfl) (by kernel_rfl) (fun _ _ _ h => h) (Or.inl ⟨by rfl, ?_⟩) ?_
                    rotate_left 1
                    · intro wq _
                      go_simp
                      try with_reducible rfl
                    try simp only [Act.put, List.setIfInBounds_toArray, List.set_cons_zero, List.set_cons_succ]
                    refine wpTill_take (i := 4) (oi := ⟨some 106, _, _, _, _, _⟩) (v := ?_) rfl (by kernel_rfl) (by kernel_rfl) (by kernel_rfl) (by kernel_rfl) (by kernel_rfl) (fun _ _ _ h => h) (Or.inl ⟨by rfl, ?_⟩) (by assumption) ?_
                    rotate_left 1
                    · intro wq hSw
                      (try dsimp only at hSw)
                      go_simp
                      try with_reducible rfl
                    try simp only [Act.put, List.setIfInBounds_toArray, List.set_cons_zero, List.set_cons_succ]
                    refine wpTill_pure (i := 5) (oi := ⟨some 107, _, _, _, _, _⟩) (v := ?_) rfl (by kernel_rfl) (by kernel_rfl) (by kernel_rfl) (fun _ _ _ h => h) (Or.inl ⟨by rfl, ?_⟩) ?_
                    rotate_left 1
                    · intro wq _
                      go_simp
                      try with_reducible rfl
                    try simp only [Act.put, List.setIfInBounds_toArray, List.set_cons_zero, List.set_cons_succ]
                    refine wpTill_pure (i := 6) (oi := ⟨some 108, _, _, _, _, _⟩) (v := ?_) rfl (by kernel_rfl) (by kernel_rfl) (by kernel_rfl) (fun _ _ _ h => h) (Or.inl ⟨by rfl, ?_⟩) ?_
                    rotate_left 1
                    · intro wq _
                      go_simp
                      try with_reducible rfl
                    try simp only [Act.put, List.setIfInBounds_toArray, List.set_cons_zero, List.set_cons_succ]
                    refine wpTill_pure (i := 7) (oi := ⟨some 109, _, _, _, _, _⟩) (v := ?_) rfl (by kernel_rfl) (by kernel_rfl) (by kernel_rfl) (fun _ _ _ h => h) (Or.inl ⟨by rfl, ?_⟩) ?_
                    rotate_left 1
                    · intro wq _
                      go_simp
                      try with_reducible rfl
                    try simp only [Act.put, List.setIfInBounds_toArray, List.set_cons_zero, List.set_cons_succ]
                    refine wpTill_late (i := 8) (o := ⟨none, _, _, _, _, _⟩) (by kernel_rfl) rfl (by kernel_rfl) (fun K hK => ?_)
                    go_simp
                    try dsimp only
                    refine hK.out _ _ ?_
                    clear hK K
                    try simp only [Act.put, List.setIfInBounds_toArray, List.set_cons_zero, List.set_cons_succ]
                    refine wpTill_done (by kernel_rfl) ?_ _
                    clear p6 k6 f6 HX7
                    generalize (w7.setCell { block := C, off := 1 } (Value.int IntKind.i64 (a : Int))).drew = w8 at *
                    have pz := HX8.out.p0
                    have k8 := HX8.out.wk.c1
                    go_simp
                    go_upto_block 3 with fail
                    go_cut [9] (fun v wx => a ≤ rr ∧ rr ≤ n ∧ v = .int .i64 (a : Int) ∧ RfFr w C w.heap.size wz.heap.size (some ⟨b, off, none⟩) n c L (rr : Int) 0 q s wx)
                    case first =>
                      go_wp2_with fail
                      go_loopw [114] (fun _ wr => ∃ jj : Nat, a ≤ jj ∧ jj ≤ n ∧ rr = runFrom plainB L jj ∧ RfFr w C w.heap.size wz.heap.size (some ⟨b, off, none⟩) n c L (jj : Int) 0 q s wr) (fun _ wr => n - (match wr.cell? ⟨C, 1, none⟩ with | some (.int _ j) => j.toNat | _ => 0))
                      case atStart => exact ⟨a, Nat.le_refl _, han, by rw [← HRR.out, HA.out], HX8.out⟩
                      case round =>
                        obtain ⟨jj, haj, hjjn, hrun, hfj⟩ := hrel
                        have HFJ := Lib.hid hfj
                        have HRUN := Lib.hid hrun
                        have HM1 := Lib.hid hfj.wk.c1
                        clear pz k8
                        have pz := hfj.p0
                        have hpr := pk_range HL.out.ok jj
                        clear hfj hrun
                        by_cases hpl : plainB (pk L jj) = true
                        · have hlt : jj < L.length := pk_lt (fun e => by rw [e] at hpl; exact absurd hpl (by decide))
                          have h0 : 0 ≤ pk L jj := by
                            rcases hpr with h | h
                            · rw [h] at hpl; exact absurd hpl (by decide)
                            · exact h.1
                          have HSPF := Lib.hid (fun (W : World) => show Calls Tryz.prog 83 #[.int .i32 (pk L jj)] W fun e w' => e = .returned (.bool false) ∧ Below W.heap.size W w' by have := ref_special (pk L jj) W; rwa [sp_plain h0, hpl] at this)
                          have hwj : IntKind.i64.wrap ((jj : Int) + 1) = (jj : Int) + 1 := wrap_small _ (by omega) (by omega)
                          have HNX := Lib.hid (HRUN.out.trans (runFrom_in hlt hpl))
                          have hg0 : decide ((0 : Int) ≤ pk L jj) = true := decide_eq_true h0
                          go_wp2_with fail
                          refine (HSE.out _ jj HFJ.out.wk hjjn).mono ?_
                          rintro e w10 ⟨rfl, hc10, hb10⟩
                          have HX10 := Lib.hid (HFJ.out.keepB hb10 hc10)
                          clear hc10 hb10 pz
                          have pz := HX10.out.p0
                          go_wp2_with fail
                          refine (HSE.out _ jj HX10.out.wk hjjn).mono ?_
                          rintro e w11 ⟨rfl, hc11, hb11⟩
                          have HX11 := Lib.hid (HX10.out.keepB hb11 hc11)
                          clear hc11 hb11 pz HX10
                          have pz := HX11.out.p0
                          go_wp2_with fail
                          refine (HSPF.out _).mono ?_
                          rintro e w12 ⟨rfl, hb12⟩
                          have HX12 := Lib.hid (HX11.out.below hb12)
                          clear hb12 pz HX11
                          have pz := HX12.out.p0
                          obtain ⟨s1, s2, s3, s4⟩ := HX12.out.wk.step
                          have HX13 := Lib.hid (show RfFr w C w.heap.size wz.heap.size (some ⟨b, off, none⟩) n c L ((jj + 1 : Nat) : Int) 0 q s (w12.setCell ⟨C, 1, none⟩ (.int .i64 ((jj : Int) + 1))) by rw [show ((jj + 1 : Nat) : Int) = (jj : Int) + 1 by omega]; exact HX12.out.keepB s4 s3)
                          clear s3 s4
                          go_wp2_with fail
                          refine ⟨⟨jj + 1, by omega, by omega, HNX.out, HX13.out⟩, ?_⟩
                          rw [HX13.out.wk.c1, HM1.out]
                          simp only [Int.toNat_natCast]
                          omega
                        · rw [Bool.not_eq_true] at hpl
                          obtain rfl : rr = jj := HRUN.out.trans (runFrom_out (fun _ => hpl))
                          clear HRUN HM1
                          rcases hpr with hneg | hpos
                          all_goals first
                          | have hng := hneg
                            go_wp2_with fail
                            refine (HSE.out _ rr HFJ.out.wk hjjn).mono ?_
                            rintro e w12 ⟨rfl, hc12, hb12⟩
                            have HX12 := Lib.hid (HFJ.out.keepB hb12 hc12)
                            clear hc12 hb12 pz
                            rw [hneg]
                          | have hps := hpos
                            have HSPT := Lib.hid (fun (W : World) => show Calls Tryz.prog 83 #[.int .i32 (pk L rr)] W fun e w' => e = .returned (.bool true) ∧ Below W.heap.size W w' by have := ref_special (pk L rr) W; rwa [sp_plain hpos.1, hpl] at this)
                            have hg0 : decide ((0 : Int) ≤ pk L rr) = true := decide_eq_true hpos.1
                            go_wp2_with fail
                            refine (HSE.out _ rr HFJ.out.wk hjjn).mono ?_
                            rintro e w10 ⟨rfl, hc10, hb10⟩
                            have HX10 := Lib.hid (HFJ.out.keepB hb10 hc10)
                            clear hc10 hb10 pz
                            have pz := HX10.out.p0
                            go_wp2_with fail
                            refine (HSE.out _ rr HX10.out.wk hjjn).mono ?_
                            rintro e w11 ⟨rfl, hc11, hb11⟩
                            have HX11 := Lib.hid (HX10.out.keepB hb11 hc11)
                            clear hc11 hb11 pz HX10
                            have pz := HX11.out.p0
                            go_wp2_with fail
                            refine (HSPT.out _).mono ?_
                            rintro e w12 ⟨rfl, hb12⟩
                            have HX12 := Lib.hid (HX11.out.below hb12)
                            clear hb12 pz HX11 HSPT
                          all_goals
                            have HX12f := Lib.hid HX12.out
                            go_wp2_with fail
                            go_meet
                            exact ⟨haj, hjjn, rfl, HX12f.out⟩
                    case rest =>
                      obtain ⟨haj, hjjn, rfl, hf12⟩ := hcut
                      obtain ⟨w12, hw12⟩ : ∃ w12, w12 = wc := ⟨_, rfl⟩
                      subst hw12
                      have HX12 := Lib.hid hf12
                      clear hf12 pz k8 HX8
                      have d0 := HX12.out.wk.c0
                      have d1 := HX12.out.wk.c1
                      have d2 := HX12.out.p0
                      have hcv := wk_text (HX12.out.wk.drewN 1) haj hjjn
                      have hk1 : (a : Int) ≤ (rr : Int) := by omega
                      have hk2 : (rr : Int) ≤ (c : Int) := by have := HX12.out.wk.cap; omega
                      have hk3 : (0 : Int) ≤ (a : Int) := by omega
                      have hts : (runesBytes (textAt L a rr)).size ≤ maxLen := runesBytes_small _ (by unfold textAt; rw [List.length_take]; omega) (by unfold textAt; rw [List.length_take]; omega)
                      have HCT := Lib.hid (class_text (textAt L a rr))
                      have HDR := Lib.hid (show Below w12.heap.size w12 w12.drew from (Below.refl _ _).drew)
                      generalize runesBytes (textAt L a rr) = T at *
                      have HCL := Lib.hid (fun (W : World) => ref_class T W hts)
                      clear hts
                      cases hcl : classOf (textAt L a rr) with
                      | none =>
                        have HT := Lib.hid (HCT.out.trans hcl)
                        have HRES := Lib.hid (HPP.out.trans (classP_e1 HRR.out (by rw [HA.out]; exact hcl)))
                        rw [HA.out] at HRES
                        clear hcl
                        go_upto_region 29 with fail
                        refine wp_region_till (S := (fun w' => w'.cell? ⟨w.heap.size, 0, none⟩ = some (.pointer (some ⟨C, 0, none⟩)) ∧ w'.cell? ⟨C, 0, none⟩ = some (.slice (some ⟨b, off, none⟩) n c) ∧ w'.cell? ⟨C, 1, none⟩ = some (.int .i64 rr) ∧ (convert 61 9 (.slice (if c = a then some ⟨b, off, none⟩ else some ⟨b, off + a, none⟩) (rr - a) (c - a))).run Tryz.prog w' = .ok (.string T) w')) [0, 3, 5, 8, 10] (by kernel_rfl) ⟨d2, d0, d1, hcv⟩ (fun hHeld => ?_)
                        refine wpTill_take (i := 0) (oi := ⟨some 130, _, _, _, _, _⟩) (v := ?_) rfl (by kernel_rfl) (by kernel_rfl) (by kernel_rfl) (by kernel_rfl) (by kernel_rfl) (fun _ _ _ h => h) (Or.inl ⟨by rfl, ?_⟩) (by assumption) ?_
                        rotate_left 1
                        · intro wq hSw
                          (try dsimp only at hSw)
                          go_simp
                          try with_reducible rfl
                        try simp only [Act.put, List.setIfInBounds_toArray, List.set_cons_zero, List.set_cons_succ]
                        refine wpTill_pure (i := 1) (oi := ⟨some 131, _, _, _, _, _⟩) (v := ?_) rfl (by kernel_rfl) (by kernel_rfl) (by kernel_rfl) (fun _ _ _ h => h) (Or.inl ⟨by rfl, ?_⟩) ?_
                        rotate_left 1
                        · intro wq _
                          go_simp
                          try with_reducible rfl
                        try simp only [Act.put, List.setIfInBounds_toArray, List.set_cons_zero, List.set_cons_succ]
                        refine wpTill_pure (i := 2) (oi := ⟨some 132, _, _, _, _, _⟩) (v := ?_) rfl (by kernel_rfl) (by kernel_rfl) (by kernel_rfl) (fun _ _ _ h => h) (Or.inl ⟨by rfl, ?_⟩) ?_
                        rotate_left 1
                        · intro wq _
                          go_simp
                          try with_reducible rfl
                        try simp only [Act.put, List.setIfInBounds_toArray, List.set_cons_zero, List.set_cons_succ]
                        refine wpTill_take (i := 3) (oi := ⟨some 133, _, _, _, _, _⟩) (v := ?_) rfl (by kernel_rfl) (by kernel_rfl) (by kernel_rfl) (by kernel_rfl) (by kernel_rfl) (fun _ _ _ h => h) (Or.inl ⟨by rfl, ?_⟩) (by assumption) ?_
                        rotate_left 1
                        · intro wq hSw
                          (try dsimp only at hSw)
                          go_simp
                          try with_reducible rfl
                        try simp only [Act.put, List.setIfInBounds_toArray, List.set_cons_zero, List.set_cons_succ]
                        refine wpTill_pure (i := 4) (oi := ⟨some 134, _, _, _, _, _⟩) (v := ?_) rfl (by kernel_rfl) (by kernel_rfl) (by kernel_rfl) (fun _ _ _ h => h) (Or.inl ⟨by rfl, ?_⟩) ?_
                        rotate_left 1
                        · intro wq _
                          go_simp
                          try with_reducible rfl
                        try simp only [Act.put, List.setIfInBounds_toArray, List.set_cons_zero, List.set_cons_succ]
                        refine wpTill_take (i := 5) (oi := ⟨some 135, _, _, _, _, _⟩) (v := ?_) rfl (by kernel_rfl) (by kernel_rfl) (by kernel_rfl) (by kernel_rfl) (by kernel_rfl) (fun _ _ _ h => h) (Or.inl ⟨by rfl, ?_⟩) (by assumption) ?_
                        rotate_left 1
                        · intro wq hSw
                          (try dsimp only at hSw)
                          go_simp
                          try with_reducible rfl
                        try simp only [Act.put, List.setIfInBounds_toArray, List.set_cons_zero, List.set_cons_succ]
                        refine wpTill_pure (i := 6) (oi := ⟨some 136, _, _, _, _, _⟩) (v := ?_) rfl (by kernel_rfl) (by kernel_rfl) (by kernel_rfl) (fun _ _ _ h => h) (Or.inl ⟨by rfl, ?_⟩) ?_
                        rotate_left 1
                        · intro wq _
                          go_simp
                          try with_reducible rfl
                        try simp only [Act.put, List.setIfInBounds_toArray, List.set_cons_zero, List.set_cons_succ]
                        refine wpTill_pure (i := 7) (oi := ⟨some 137, _, _, _, _, _⟩) (v := ?_) rfl (by kernel_rfl) (by kernel_rfl) (by kernel_rfl) (fun _ _ _ h => h) (Or.inl ⟨by rfl, ?_⟩) ?_
                        rotate_left 1
                        · intro wq _
                          go_simp
                          try with_reducible rfl
                        try simp only [Act.put, List.setIfInBounds_toArray, List.set_cons_zero, List.set_cons_succ]
                        refine wpTill_take (i := 8) (oi := ⟨some 138, _, _, _, _, _⟩) (v := ?_) rfl (by kernel_rfl) (by kernel_rfl) (by kernel_rfl) (by kernel_rfl) (by kernel_rfl) (fun _ _ _ h => h) (Or.inl ⟨by rfl, ?_⟩) (by assumption) ?_
                        rotate_left 1
                        · intro wq hSw
                          (try dsimp only at hSw)
                          go_simp
                          try with_reducible rfl
                        try simp only [Act.put, List.setIfInBounds_toArray, List.set_cons_zero, List.set_cons_succ]
                        refine wpTill_pure (i := 9) (oi := ⟨some 139, _, _, _, _, _⟩) (v := ?_) rfl (by kernel_rfl) (by kernel_rfl) (by kernel_rfl) (fun _ _ _ h => h) (Or.inl ⟨by rfl, ?_⟩) ?_
                        rotate_left 1
                        · intro wq _
                          go_simp
                          try with_reducible rfl
                        try simp only [Act.put, List.setIfInBounds_toArray, List.set_cons_zero, List.set_cons_succ]
                        refine wpTill_take (i := 10) (oi := ⟨some 140, _, _, _, _, _⟩) (v := ?_) rfl (by kernel_rfl) (by kernel_rfl) (by kernel_rfl) (by kernel_rfl) (by kernel_rfl) (fun _ _ _ h => h) (Or.inl ⟨by rfl, ?_⟩) (by assumption) ?_
                        rotate_left 1
                        · intro wq hSw
                          (try dsimp only at hSw)
                          go_simp
                          try with_reducible rfl
                        try simp only [Act.put, List.setIfInBounds_toArray, List.set_cons_zero, List.set_cons_succ]
                        refine wpTill_late (i := 11) (o := ⟨some 141, _, _, _, _, _⟩) (by kernel_rfl) rfl (by kernel_rfl) (fun K hK => ?_)
                        go_simp
                        go_at_call 84
                        refine (HCL.out _).mono ?_
                        rintro e w9 hp9
                        unfold RclPost at hp9
                        rw [HT.out] at hp9
                        obtain ⟨rfl, hb9⟩ := hp9
                        try dsimp only
                        refine hK.out _ _ ?_
                        clear hK K
                        try simp only [Act.put, List.setIfInBounds_toArray, List.set_cons_zero, List.set_cons_succ]
                        refine wpTill_pure (i := 12) (oi := ⟨some 10, _, _, _, _, _⟩) (v := ?_) rfl (by kernel_rfl) (by kernel_rfl) (by kernel_rfl) (fun _ _ _ h => h) (Or.inl ⟨by rfl, ?_⟩) ?_
                        rotate_left 1
                        · intro wq _
                          go_simp
                          try with_reducible rfl
                        try simp only [Act.put, List.setIfInBounds_toArray, List.set_cons_zero, List.set_cons_succ]
                        refine wpTill_done (by kernel_rfl) ?_ _
                        generalize (if c = a then some ({ block := b, off := off } : Addr) else some { block := b, off := off + a }) = Z
                        have HX9 := Lib.hid ((HX12.out.below HDR.out).below hb9)
                        clear hb9 d0 d1 d2 hcv HX12
                        have pz := HX9.out.p0
                        go_simp
                        go_wp2_with fail
                        refine (wk_stop _ C _ n c L rr q 7 a HX9.out.wk).mono ?_
                        rintro e w10 ⟨rfl, hc10, hb10⟩
                        have HXa := Lib.hid (HX9.out.keepB hb10 hc10)
                        clear hc10 hb10 pz
                        have pz := HXa.out.p0
                        go_wp2_with fail
                        refine (wk_must_bad _ C _ n c L rr 7 a 58 HXa.out.wk (by decide) (by decide)).mono ?_
                        rintro e wb ⟨rfl, hcb, hbb⟩
                        have HXb := Lib.hid (HXa.out.keepB hbb hcb)
                        clear hcb hbb pz
                        have pz := HXb.out.p0
                        go_wp2_with fail
                        refine (wk_must_bad _ C _ n c L rr 7 a 93 HXb.out.wk (by decide) (by decide)).mono ?_
                        rintro e wb ⟨rfl, hcb, hbb⟩
                        have HXc := Lib.hid (HXb.out.keepB hbb hcb)
                        clear hcb hbb pz
                        have pz := HXc.out.p0
                        have HPART := Lib.hid (do_part (p := q) 124 (by decide) HXc.out (show SetArg _ none 0 0 [] from ⟨right_nil, Rd.nil, Nat.le_refl _⟩) OPR.out HGO.out H93.out HRES.out ⟨by decide, rfl, rfl⟩ hf0 hjn)
                        go_wp2_with fail
                        refine HPART.out.mono ?_
                        rintro e w15 ⟨rfl, hl9, hm9⟩
                        have HL9 := Lib.hid hl9
                        clear hl9
                        go_wp2_with fail
                        exact ⟨HL9.out, by rw [HM0.out]; exact hm9⟩
                      | some t =>
                        have HT := Lib.hid (HCT.out.trans hcl)
                        have HTR := Lib.hid (class_right hcl)
                        have HCLO := Lib.hid (show classOf (textAt L (k + 2) rr) = some t by rw [HA.out]; exact hcl)
                        clear hcl
                        go_upto_region 29 with fail
                        refine wp_region_till (S := (fun w' => w'.cell? ⟨w.heap.size, 0, none⟩ = some (.pointer (some ⟨C, 0, none⟩)) ∧ w'.cell? ⟨C, 0, none⟩ = some (.slice (some ⟨b, off, none⟩) n c) ∧ w'.cell? ⟨C, 1, none⟩ = some (.int .i64 rr) ∧ (convert 61 9 (.slice (if c = a then some ⟨b, off, none⟩ else some ⟨b, off + a, none⟩) (rr - a) (c - a))).run Tryz.prog w' = .ok (.string T) w')) [0, 3, 5, 8, 10] (by kernel_rfl) ⟨d2, d0, d1, hcv⟩ (fun hHeld => ?_)
                        refine wpTill_take (i := 0) (oi := ⟨some 130, _, _, _, _, _⟩) (v := ?_) rfl (by kernel_rfl) (by kernel_rfl) (by kernel_rfl) (by kernel_rfl) (by kernel_rfl) (fun _ _ _ h => h) (Or.inl ⟨by rfl, ?_⟩) (by assumption) ?_
                        rotate_left 1
                        · intro wq hSw
                          (try dsimp only at hSw)
                          go_simp
                          try with_reducible rfl
                        try simp only [Act.put, List.setIfInBounds_toArray, List.set_cons_zero, List.set_cons_succ]
                        refine wpTill_pure (i := 1) (oi := ⟨some 131, _, _, _, _, _⟩) (v := ?_) rfl (by kernel_rfl) (by kernel_rfl) (by kernel_rfl) (fun _ _ _ h => h) (Or.inl ⟨by rfl, ?_⟩) ?_
                        rotate_left 1
                        · intro wq _
                          go_simp
                          try with_reducible rfl
                        try simp only [Act.put, List.setIfInBounds_toArray, List.set_cons_zero, List.set_cons_succ]
                        refine wpTill_pure (i := 2) (oi := ⟨some 132, _, _, _, _, _⟩) (v := ?_) rfl (by kernel_rfl) (by kernel_rfl) (by kernel_rfl) (fun _ _ _ h => h) (Or.inl ⟨by rfl, ?_⟩) ?_
                        rotate_left 1
                        · intro wq _
                          go_simp
                          try with_reducible rfl
                        try simp only [Act.put, List.setIfInBounds_toArray, List.set_cons_zero, List.set_cons_succ]
                        refine wpTill_take (i := 3) (oi := ⟨some 133, _, _, _, _, _⟩) (v := ?_) rfl (by kernel_rfl) (by kernel_rfl) (by kernel_rfl) (by kernel_rfl) (by kernel_rfl) (fun _ _ _ h => h) (Or.inl ⟨by rfl, ?_⟩) (by assumption) ?_
                        rotate_left 1
                        · intro wq hSw
                          (try dsimp only at hSw)
                          go_simp
                          try with_reducible rfl
                        try simp only [Act.put, List.setIfInBounds_toArray, List.set_cons_zero, List.set_cons_succ]
                        refine wpTill_pure (i := 4) (oi := ⟨some 134, _, _, _, _, _⟩) (v := ?_) rfl (by kernel_rfl) (by kernel_rfl) (by kernel_rfl) (fun _ _ _ h => h) (Or.inl ⟨by rfl, ?_⟩) ?_
                        rotate_left 1
                        · intro wq _
                          go_simp
                          try with_reducible rfl
                        try simp only [Act.put, List.setIfInBounds_toArray, List.set_cons_zero, List.set_cons_succ]
                        refine wpTill_take (i := 5) (oi := ⟨some 135, _, _, _, _, _⟩) (v := ?_) rfl (by kernel_rfl) (by kernel_rfl) (by kernel_rfl) (by kernel_rfl) (by kernel_rfl) (fun _ _ _ h => h) (Or.inl ⟨by rfl, ?_⟩) (by assumption) ?_
                        rotate_left 1
                        · intro wq hSw
                          (try dsimp only at hSw)
                          go_simp
                          try with_reducible rfl
                        try simp only [Act.put, List.setIfInBounds_toArray, List.set_cons_zero, List.set_cons_succ]
                        refine wpTill_pure (i := 6) (oi := ⟨some 136, _, _, _, _, _⟩) (v := ?_) rfl (by kernel_rfl) (by kernel_rfl) (by kernel_rfl) (fun _ _ _ h => h) (Or.inl ⟨by rfl, ?_⟩) ?_
                        rotate_left 1
                        · intro wq _
                          go_simp
                          try with_reducible rfl
                        try simp only [Act.put, List.setIfInBounds_toArray, List.set_cons_zero, List.set_cons_succ]
                        refine wpTill_pure (i := 7) (oi := ⟨some 137, _, _, _, _, _⟩) (v := ?_) rfl (by kernel_rfl) (by kernel_rfl) (by kernel_rfl) (fun _ _ _ h => h) (Or.inl ⟨by rfl, ?_⟩) ?_
                        rotate_left 1
                        · intro wq _
                          go_simp
                          try with_reducible rfl
                        try simp only [Act.put, List.setIfInBounds_toArray, List.set_cons_zero, List.set_cons_succ]
                        refine wpTill_take (i := 8) (oi := ⟨some 138, _, _, _, _, _⟩) (v := ?_) rfl (by kernel_rfl) (by kernel_rfl) (by kernel_rfl) (by kernel_rfl) (by kernel_rfl) (fun _ _ _ h => h) (Or.inl ⟨by rfl, ?_⟩) (by assumption) ?_
                        rotate_left 1
                        · intro wq hSw
                          (try dsimp only at hSw)
                          go_simp
                          try with_reducible rfl
                        try simp only [Act.put, List.setIfInBounds_toArray, List.set_cons_zero, List.set_cons_succ]
                        refine wpTill_pure (i := 9) (oi := ⟨some 139, _, _, _, _, _⟩) (v := ?_) rfl (by kernel_rfl) (by kernel_rfl) (by kernel_rfl) (fun _ _ _ h => h) (Or.inl ⟨by rfl, ?_⟩) ?_
                        rotate_left 1
                        · intro wq _
                          go_simp
                          try with_reducible rfl
                        try simp only [Act.put, List.setIfInBounds_toArray, List.set_cons_zero, List.set_cons_succ]
                        refine wpTill_take (i := 10) (oi := ⟨some 140, _, _, _, _, _⟩) (v := ?_) rfl (by kernel_rfl) (by kernel_rfl) (by kernel_rfl) (by kernel_rfl) (by kernel_rfl) (fun _ _ _ h => h) (Or.inl ⟨by rfl, ?_⟩) (by assumption) ?_
                        rotate_left 1
                        · intro wq hSw
                          (try dsimp only at hSw)
                          go_simp
                          try with_reducible rfl
                        try simp only [Act.put, List.setIfInBounds_toArray, List.set_cons_zero, List.set_cons_succ]
                        refine wpTill_late (i := 11) (o := ⟨some 141, _, _, _, _, _⟩) (by kernel_rfl) rfl (by kernel_rfl) (fun K hK => ?_)
                        go_simp
                        go_at_call 84
                        refine (HCL.out _).mono ?_
                        rintro e w9 hp9
                        unfold RclPost at hp9
                        rw [HT.out] at hp9
                        obtain ⟨⟨ad, n9, c9, rfl, hr9, hc9⟩, hb9⟩ := hp9
                        try dsimp only
                        refine hK.out _ _ ?_
                        clear hK K
                        try simp only [Act.put, List.setIfInBounds_toArray, List.set_cons_zero, List.set_cons_succ]
                        refine wpTill_pure (i := 12) (oi := ⟨some 10, _, _, _, _, _⟩) (v := ?_) rfl (by kernel_rfl) (by kernel_rfl) (by kernel_rfl) (fun _ _ _ h => h) (Or.inl ⟨by rfl, ?_⟩) ?_
                        rotate_left 1
                        · intro wq _
                          go_simp
                          try with_reducible rfl
                        try simp only [Act.put, List.setIfInBounds_toArray, List.set_cons_zero, List.set_cons_succ]
                        refine wpTill_done (by kernel_rfl) ?_ _
                        generalize (if c = a then some ({ block := b, off := off } : Addr) else some { block := b, off := off + a }) = Z
                        have HX9 := Lib.hid ((HX12.out.below HDR.out).below hb9)
                        have HR9 := Lib.hid (hr9.lift (X' := fun b => C < b) (fun b h => by have := HX12.out.wk.lt; have h2 : w12.heap.size ≤ b := h; omega))
                        clear hb9 d0 d1 d2 hcv HX12 hr9
                        have pz := HX9.out.p0
                        have HMU := Lib.hid (wk_must _ C _ n c L rr q 58 HX9.out.wk hjjn (by decide))
                        go_simp
                        cases hn1 : needP L rr 58 with
                        | error e0 =>
                          obtain ⟨x, y⟩ := e0
                          rw [hn1] at HMU
                          have HRES := Lib.hid (HPP.out.trans (classP_e2 HRR.out HCLO.out hn1))
                          clear hn1
                          go_wp2_with fail
                          refine HMU.out.mono ?_
                          rintro e w10 ⟨rfl, ⟨hx, i10, hc10⟩, hb10⟩
                          have HXa := Lib.hid (HX9.out.keepB hb10 hc10)
                          have HR9 := Lib.hid (HR9.out.butC hb10)
                          have HXX := Lib.hid hx
                          clear hc10 hb10 hx pz
                          have pz := HXa.out.p0
                          go_wp2_with fail
                          refine (wk_must_bad _ C _ n c L i10 x y 93 HXa.out.wk HXX.out (by decide)).mono ?_
                          rintro e wb ⟨rfl, hcb, hbb⟩
                          have HXc := Lib.hid (HXa.out.keepB hbb hcb)
                          have HR9 := Lib.hid (HR9.out.butC hbb)
                          clear hcb hbb pz
                          have pz := HXc.out.p0
                          have HPART := Lib.hid (do_part (p := q) 124 (by decide) HXc.out ⟨HTR.out, HR9.out.of, hc9⟩ OPR.out HGO.out H93.out HRES.out ⟨HXX.out, rfl, rfl⟩ hf0 hjn)
                          go_wp2_with fail
                          refine HPART.out.mono ?_
                          rintro e w15 ⟨rfl, hl9, hm9⟩
                          have HL9 := Lib.hid hl9
                          clear hl9
                          go_wp2_with fail
                          exact ⟨HL9.out, by rw [HM0.out]; exact hm9⟩
                        | ok j1 =>
                          rw [hn1] at HMU
                          have HN1 := Lib.hid hn1
                          clear hn1
                          go_wp2_with fail
                          refine HMU.out.mono ?_
                          rintro e w10 ⟨rfl, ⟨hj1, hc10⟩, hb10⟩
                          have HXa := Lib.hid (HX9.out.keepB hb10 hc10)
                          have HR9 := Lib.hid (HR9.out.butC hb10)
                          clear hc10 hb10 pz
                          have pz := HXa.out.p0
                          have HMU2 := Lib.hid (wk_must _ C _ n c L j1 q 93 HXa.out.wk hj1 (by decide))
                          cases hn2 : needP L j1 93 with
                          | error e0 =>
                            obtain ⟨x, y⟩ := e0
                            rw [hn2] at HMU2
                            have HRES := Lib.hid (HPP.out.trans (classP_e3 HRR.out HCLO.out HN1.out hn2))
                            clear hn2
                            go_wp2_with fail
                            refine HMU2.out.mono ?_
                            rintro e w11 ⟨rfl, ⟨hx, i11, hc11⟩, hb11⟩
                            have HXc := Lib.hid (HXa.out.keepB hb11 hc11)
                            have HR9 := Lib.hid (HR9.out.butC hb11)
                            have HXX := Lib.hid hx
                            clear hc11 hb11 hx pz
                            have HPART := Lib.hid (do_part (p := q) 124 (by decide) HXc.out ⟨HTR.out, HR9.out.of, hc9⟩ OPR.out HGO.out H93.out HRES.out ⟨HXX.out, rfl, rfl⟩ hf0 hjn)
                            go_wp2_with fail
                            refine HPART.out.mono ?_
                            rintro e w15 ⟨rfl, hl9, hm9⟩
                            have HL9 := Lib.hid hl9
                            clear hl9
                            go_wp2_with fail
                            exact ⟨HL9.out, by rw [HM0.out]; exact hm9⟩
                          | ok j2 =>
                            rw [hn2] at HMU2
                            have HRES := Lib.hid (HPP.out.trans (classP_k HRR.out HCLO.out HN1.out hn2))
                            have HRT := Lib.hid (HPOK.out t j2 HRES.out)
                            clear hn2
                            go_wp2_with fail
                            refine HMU2.out.mono ?_
                            rintro e w11 ⟨rfl, ⟨hj2, hc11⟩, hb11⟩
                            have HXc := Lib.hid (HXa.out.keepB hb11 hc11)
                            have HR9 := Lib.hid (HR9.out.butC hb11)
                            clear hc11 hb11 pz
                            have HPART := Lib.hid (do_part (p := q) 124 (by decide) HXc.out ⟨HTR.out, HR9.out.of, hc9⟩ OPR.out HGO.out H93.out HRES.out ⟨rfl, rfl, rfl, rfl, Nat.lt_of_le_of_lt hjk HRT.out.1, hj2⟩ hf0 hjn)
                            go_wp2_with fail
                            refine HPART.out.mono ?_
                            rintro e w15 ⟨rfl, hl9, hm9⟩
                            have HL9 := Lib.hid hl9
                            clear hl9
                            go_wp2_with fail
                            exact ⟨HL9.out, by rw [HM0.out]; exact hm9⟩
                · have hq58 : (r2 == 58) = false := by rw [beq_eq_false_iff_ne]; exact h58
                  have HPP := Lib.hid (show partP' (setP' L lv) L (skipP L j) = setP' L lv k by rw [HK.out]; exact part_set HRK.out (by rw [HR2K.out]; exact h58))
                  as_aux_lemma =>
                    go_wp2_with fail
                    refine (HSE1.out _ k HX5.out.wk hkn).mono ?_
                    rintro e w7 ⟨rfl, hc7, hb7⟩
                    have HX7 := Lib.hid (HX5.out.keepB hb7 hc7)
                    clear hc7 hb7 p2 HX6
                    rw [hr2]
                    clear hr2
                    have p2 := HX7.out.p0
                    go_wp2_with fail
                    refine (HIH.out _ k hkn HX7.out.wk).mono ?_
                    rintro e w8 hp8
                    obtain ⟨B8, m8, d8, t8, i8, e8, q8, rfl, hf8, ha8, ht8⟩ := HX7.out.inner (k := k) (j := j) hp8 (fun t j2 h => (HPOK.out t j2 (HPP.out.trans h)).1) hjk
                    have HPART := Lib.hid (do_part 124 (by decide) hf8 ha8 OPR.out HGO.out H93.out HPP.out ht8 hf0 hjn)
                    clear hp8 hf8 ha8 ht8 p2
                    go_wp2_with fail
                    refine HPART.out.mono ?_
                    rintro e w9 ⟨rfl, hl9, hm9⟩
                    have HL9 := Lib.hid (show RsLp w C w.heap.size wz.heap.size A n c L q (setP' L lv) Rp _ ∧ RsM C n _ < n + 1 - j from ⟨hl9, hm9⟩)
                    clear hl9 hm9
                    go_wp2_with fail
                    exact ⟨HL9.out.1, by rw [HM0.out]; exact HL9.out.2⟩
              · have hq91 : (r == 91) = false := by rw [beq_eq_false_iff_ne]; exact h91
                by_cases hop : r = 38 ∨ r = 45
                · have HPP := Lib.hid (show partP' (setP' L lv) L (skipP L j) = setP' L lv (skipP L (k + 1)) by rw [HK.out]; exact part_op (by rw [HRK.out]; exact hop))
                  have OPR := Lib.hid (show opOf (pk L (skipP L j)) = r by rw [HK.out, HRK.out]; unfold opOf; rw [if_pos hop])
                  have hklt := hkr (by omega)
                  have hskn : skipP L (k + 1) ≤ n := by rw [← hlen]; exact (runFrom_le (by omega)).2
                  have hjs : j ≤ skipP L (k + 1) := by have := skipP_ge L (k + 1); omega
                  as_aux_lemma =>
                    have p6 := HX6.out.p0
                    rcases hop with rfl | rfl
                    all_goals
                      go_wp2_with fail
                      refine (wk_blanks _ C A n c L (k + 1) q HX6.out.wk hklt).mono ?_
                      rintro e w7 ⟨rfl, hc7, hb7⟩
                      have HX7 := Lib.hid (HX6.out.keepB hb7 hc7)
                      clear hc7 hb7 p2 p6
                      have p2 := HX7.out.p0
                      go_wp2_with fail
                      refine (HIH.out _ (skipP L (k + 1)) hskn HX7.out.wk).mono ?_
                      rintro e w8 hp8
                      obtain ⟨B8, m8, d8, t8, i8, e8, q8, rfl, hf8, ha8, ht8⟩ := HX7.out.inner (k := k) (j := j) hp8 (fun t j2 h => (HPOK.out t j2 (HPP.out.trans h)).1) hjk
                      have HPART := Lib.hid (do_part _ (by decide) hf8 ha8 OPR.out HGO.out H93.out HPP.out ht8 hf0 hjn)
                      clear hp8 hf8 ha8 ht8 p2
                      go_wp2_with fail
                      refine HPART.out.mono ?_
                      rintro e w9 ⟨rfl, hl9, hm9⟩
                      have HL9 := Lib.hid (show RsLp w C w.heap.size wz.heap.size A n c L q (setP' L lv) Rp _ ∧ RsM C n _ < n + 1 - j from ⟨hl9, hm9⟩)
                      clear hl9 hm9
                      go_wp2_with fail
                      exact ⟨HL9.out.1, by rw [HM0.out]; exact HL9.out.2⟩
                · have hq38 : (r == 38) = false := by rw [beq_eq_false_iff_ne]; omega
                  have hq45 : (r == 45) = false := by rw [beq_eq_false_iff_ne]; omega
                  have HPP := Lib.hid (show partP' (setP' L lv) L (skipP L j) = spanS L k by rw [HK.out]; exact part_span (by rw [HRK.out]; exact h91) (by rw [HRK.out]; omega) (by rw [HRK.out]; omega))
                  have OPR := Lib.hid (show opOf (pk L (skipP L j)) = 124 by rw [HK.out, HRK.out]; unfold opOf; rw [if_neg hop])
                  as_aux_lemma =>
                    have HCH := Lib.hid (wk_char _ C A n c L k q HX5.out.wk hkn HL.out.ok)
                    clear HX6 s1 s2
                    cases hch : charP L k with
                    | error e0 =>
                      obtain ⟨x, y⟩ := e0
                      have HCE := Lib.hid hch
                      rw [hch] at HCH
                      clear hch
                      go_wp2_with fail
                      refine HCH.out.mono ?_
                      rintro e w7 ⟨⟨hx, v, i7, rfl, hc7⟩, hb7⟩
                      have HX7 := Lib.hid (HX5.out.keepB hb7 hc7)
                      have HXX := Lib.hid hx
                      clear hc7 hb7 hx p2
                      have p2 := HX7.out.p0
                      go_wp2_with fail
                      refine (wk_blind _ C A n c L i7 x y 0 HX7.out.wk HXX.out).mono ?_
                      rintro en w8 ⟨rfl, hc8, hb8⟩
                      have HX8 := Lib.hid (HX7.out.keepB hb8 hc8)
                      clear hc8 hb8 p2
                      have p2 := HX8.out.p0
                      go_wp2_with fail
                      refine (wk_good_no _ C A n c L i7 x y HX8.out.wk HXX.out).mono ?_
                      rintro en wa ⟨rfl, hwa⟩
                      subst hwa
                      have HEND := Lib.hid (rs_bad (p := q) HX8.out HXX.out HGO.out H93.out (HPP.out.trans (spanS_e1 HCE.out)) hjn)
                      go_wp2_with fail
                      exact ⟨HEND.out.1, by rw [HM0.out]; exact HEND.out.2⟩
                    | ok q0 =>
                      obtain ⟨low, j1⟩ := q0
                      have HCE := Lib.hid hch
                      rw [hch] at HCH
                      clear hch
                      go_wp2_with fail
                      refine HCH.out.mono ?_
                      rintro e w7 ⟨⟨rfl, hj1, hc7⟩, hb7⟩
                      have HX7 := Lib.hid (HX5.out.keepB hb7 hc7)
                      clear hc7 hb7 p2 HX5 HCH
                      have p2 := HX7.out.p0
                      obtain ⟨r3, hr3⟩ : ∃ r3, pk L j1 = r3 := ⟨_, rfl⟩
                      obtain ⟨r4, hr4⟩ : ∃ r4, pk L (j1 + 1) = r4 := ⟨_, rfl⟩
                      have HS3 := Lib.hid (HSE.out _ j1 HX7.out.wk hj1)
                      rw [hr3] at HS3
                      by_cases h3 : r3 = 45
                      · subst h3
                        have hj1n : j1 < n := by rw [← hlen]; exact pk_lt (by omega)
                        go_wp2_with fail
                        refine HS3.out.mono ?_
                        rintro e w8 ⟨rfl, hc8, hb8⟩
                        have HX8 := Lib.hid (HX7.out.keepB hb8 hc8)
                        clear hc8 hb8 p2 HX7 HS3
                        have p2 := HX8.out.p0
                        have HS4 := Lib.hid (HSE1.out _ j1 HX8.out.wk hj1)
                        rw [hr4] at HS4
                        go_wp2_with fail
                        refine HS4.out.mono ?_
                        rintro e w8b ⟨rfl, hc8, hb8⟩
                        have HX8b := Lib.hid (HX8.out.keepB hb8 hc8)
                        clear hc8 hb8 p2 HX8 HS4
                        have p2 := HX8b.out.p0
                        by_cases h4 : r4 = 91
                        · subst h4
                          have HS := Lib.hid (spanS_one HCE.out (by rw [hr4]; exact fun h => h.2 rfl))
                          clear hr3 hr4
                          go_wp2_with fail
                          refine (wk_good_yes _ C A n c L j1 q HX8b.out.wk).mono ?_
                          rintro en wa ⟨rfl, hwa⟩
                          subst hwa
                          have HRES := Lib.hid (HPP.out.trans HS.out)
                          have HRT := Lib.hid (HPOK.out [(low, low)] j1 HRES.out)
                          have HXA := Lib.hid (HX8b.out.below ((Below.refl _ _).alloc (Nat.le_refl _) (.cells #[.int .i32 low, .int .i32 low] 74)))
                          have HARG := Lib.hid (show SetArg (wa.alloc (.cells #[.int .i32 low, .int .i32 low] 74)) (some ⟨wa.heap.size, 0, none⟩) 1 1 [(low, low)] from ⟨HRT.out.2, Rd.more (Rd.new wa 74 2 1 [.int .i32 low, .int .i32 low] rfl) (show wa.heap.size + 1 ≤ (wa.alloc (.cells #[.int .i32 low, .int .i32 low] 74)).heap.size by simp), Nat.le_refl _⟩)
                          have HPART := Lib.hid (do_part (p := q) 124 (by decide) HXA.out HARG.out OPR.out HGO.out H93.out HRES.out ⟨rfl, rfl, rfl, rfl, Nat.lt_of_le_of_lt hjk HRT.out.1, hj1⟩ hf0 hjn)
                          go_wp2_with fail
                          refine HPART.out.mono ?_
                          rintro e w9 ⟨rfl, hl9, hm9⟩
                          have HL9 := Lib.hid hl9
                          clear hl9
                          go_wp2_with fail
                          exact ⟨HL9.out, by rw [HM0.out]; exact hm9⟩
                        · have q4 : (r4 != 91) = true := by simp; exact h4
                          have HTW := Lib.hid (show pk L j1 = 45 ∧ pk L (j1 + 1) ≠ 91 from ⟨hr3, by rw [hr4]; exact h4⟩)
                          obtain ⟨s1, s2, s3, s4⟩ := HX8b.out.wk.step
                          have hwj : IntKind.i64.wrap ((j1 : Int) + 1) = (j1 : Int) + 1 := wrap_small _ (by omega) (by omega)
                          have hcj : ((j1 + 1 : Nat) : Int) = (j1 : Int) + 1 := by omega
                          have HX9 := Lib.hid (show RfFr w C w.heap.size wz.heap.size A n c L ((j1 + 1 : Nat) : Int) 0 q s (w8b.setCell ⟨C, 1, none⟩ (.int .i64 ((j1 : Int) + 1))) by rw [hcj]; exact HX8b.out.keepB s4 s3)
                          have p9 := HX9.out.p0
                          have k9 : (w8b.setCell ⟨C, 1, none⟩ (.int .i64 ((j1 : Int) + 1))).cell? ⟨C, 1, none⟩ = some (.int .i64 ((j1 : Int) + 1)) := by rw [← hcj]; exact HX9.out.wk.c1
                          clear s3 s4 HX8b
                          have HCH2 := Lib.hid (wk_char _ C A n c L (j1 + 1) q HX9.out.wk hj1n HL.out.ok)
                          cases hch2 : charP L (j1 + 1) with
                          | error e0 =>
                            obtain ⟨x, y⟩ := e0
                            have HS := Lib.hid (spanS_e2 HCE.out HTW.out hch2)
                            rw [hch2] at HCH2
                            clear hch2 hr3 hr4
                            go_wp2_with fail
                            refine HCH2.out.mono ?_
                            rintro e w10 ⟨⟨hx, v, i10, rfl, hc10⟩, hb10⟩
                            have HX10 := Lib.hid (HX9.out.keepB hb10 hc10)
                            have HXX := Lib.hid hx
                            clear hc10 hb10 hx p2 p9 k9 s1 s2 HX9 HCH2
                            have p2 := HX10.out.p0
                            by_cases hvl : v < low
                            · go_wp2_with fail
                              refine (wk_stop_bad _ C A n c L i10 x y 3 _ HX10.out.wk HXX.out).mono ?_
                              rintro en w11 ⟨rfl, hw11⟩
                              subst hw11
                              go_wp2_with fail
                              refine (wk_good_no _ C A n c L i10 x y HX10.out.wk HXX.out).mono ?_
                              rintro en wa ⟨rfl, hwa⟩
                              subst hwa
                              have HEND := Lib.hid (rs_bad (p := q) HX10.out HXX.out HGO.out H93.out (HPP.out.trans HS.out) hjn)
                              go_wp2_with fail
                              exact ⟨HEND.out.1, by rw [HM0.out]; exact HEND.out.2⟩
                            · have hvl2 : decide (v < low) = false := decide_eq_false hvl
                              go_wp2_with fail
                              refine (wk_good_no _ C A n c L i10 x y HX10.out.wk HXX.out).mono ?_
                              rintro en wa ⟨rfl, hwa⟩
                              subst hwa
                              have HEND := Lib.hid (rs_bad (p := q) HX10.out HXX.out HGO.out H93.out (HPP.out.trans HS.out) hjn)
                              go_wp2_with fail
                              exact ⟨HEND.out.1, by rw [HM0.out]; exact HEND.out.2⟩
                          | ok q2 =>
                            obtain ⟨high, k2⟩ := q2
                            have HCE2 := Lib.hid hch2
                            rw [hch2] at HCH2
                            clear hch2 hr3 hr4
                            go_wp2_with fail
                            refine HCH2.out.mono ?_
                            rintro e w10 ⟨⟨rfl, hk2, hc10⟩, hb10⟩
                            have HX10 := Lib.hid (HX9.out.keepB hb10 hc10)
                            clear hc10 hb10 p2 p9 k9 s1 s2 HX9 HCH2
                            have p2 := HX10.out.p0
                            by_cases hvl : high < low
                            · have HS := Lib.hid (spanS_e3 HCE.out HTW.out HCE2.out hvl)
                              go_wp2_with fail
                              refine (wk_stop _ C A n c L k2 q 3 _ HX10.out.wk).mono ?_
                              rintro en w11 ⟨rfl, hc11, hb11⟩
                              have HX11 := Lib.hid (show RfFr w C w.heap.size wz.heap.size A n c L k2 3 ((j1 + 1 : Nat) : Int) s w11 by rw [hcj]; exact HX10.out.keepB hb11 hc11)
                              clear hc11 hb11 p2 HX10
                              have p2 := HX11.out.p0
                              go_wp2_with fail
                              refine (wk_good_no _ C A n c L k2 3 ((j1 + 1 : Nat) : Int) HX11.out.wk (by decide)).mono ?_
                              rintro en wa ⟨rfl, hwa⟩
                              subst hwa
                              have HEND := Lib.hid (rs_bad (p := q) HX11.out (by decide) HGO.out H93.out (HPP.out.trans HS.out) hjn)
                              go_wp2_with fail
                              exact ⟨HEND.out.1, by rw [HM0.out]; exact HEND.out.2⟩
                            · have hvl2 : decide (high < low) = false := decide_eq_false hvl
                              have HS := Lib.hid (spanS_two HCE.out HTW.out HCE2.out hvl)
                              go_wp2_with fail
                              refine (wk_good_yes _ C A n c L k2 q HX10.out.wk).mono ?_
                              rintro en wa ⟨rfl, hwa⟩
                              subst hwa
                              have HRES := Lib.hid (HPP.out.trans HS.out)
                              have HRT := Lib.hid (HPOK.out [(low, high)] k2 HRES.out)
                              have HXA := Lib.hid (HX10.out.below ((Below.refl _ _).alloc (Nat.le_refl _) (.cells #[.int .i32 low, .int .i32 high] 74)))
                              have HARG := Lib.hid (show SetArg (wa.alloc (.cells #[.int .i32 low, .int .i32 high] 74)) (some ⟨wa.heap.size, 0, none⟩) 1 1 [(low, high)] from ⟨HRT.out.2, Rd.more (Rd.new wa 74 2 1 [.int .i32 low, .int .i32 high] rfl) (show wa.heap.size + 1 ≤ (wa.alloc (.cells #[.int .i32 low, .int .i32 high] 74)).heap.size by simp), Nat.le_refl _⟩)
                              have HPART := Lib.hid (do_part (p := q) 124 (by decide) HXA.out HARG.out OPR.out HGO.out H93.out HRES.out ⟨rfl, rfl, rfl, rfl, Nat.lt_of_le_of_lt hjk HRT.out.1, hk2⟩ hf0 hjn)
                              go_wp2_with fail
                              refine HPART.out.mono ?_
                              rintro e w9 ⟨rfl, hl9, hm9⟩
                              have HL9 := Lib.hid hl9
                              clear hl9
                              go_wp2_with fail
                              exact ⟨HL9.out, by rw [HM0.out]; exact hm9⟩
                      · have q3 : (r3 == 45) = false := by rw [beq_eq_false_iff_ne]; exact h3
                        have HS := Lib.hid (spanS_one HCE.out (by rw [hr3]; exact fun h => h3 h.1))
                        clear hr3 hr4
                        go_wp2_with fail
                        refine HS3.out.mono ?_
                        rintro e w8 ⟨rfl, hc8, hb8⟩
                        have HX8 := Lib.hid (HX7.out.keepB hb8 hc8)
                        clear hc8 hb8 p2 HX7 HS3
                        have p2 := HX8.out.p0
                        go_wp2_with fail
                        refine (wk_good_yes _ C A n c L j1 q HX8.out.wk).mono ?_
                        rintro en wa ⟨rfl, hwa⟩
                        subst hwa
                        have HRES := Lib.hid (HPP.out.trans HS.out)
                        have HRT := Lib.hid (HPOK.out [(low, low)] j1 HRES.out)
                        have HXA := Lib.hid (HX8.out.below ((Below.refl _ _).alloc (Nat.le_refl _) (.cells #[.int .i32 low, .int .i32 low] 74)))
                        have HARG := Lib.hid (show SetArg (wa.alloc (.cells #[.int .i32 low, .int .i32 low] 74)) (some ⟨wa.heap.size, 0, none⟩) 1 1 [(low, low)] from ⟨HRT.out.2, Rd.more (Rd.new wa 74 2 1 [.int .i32 low, .int .i32 low] rfl) (show wa.heap.size + 1 ≤ (wa.alloc (.cells #[.int .i32 low, .int .i32 low] 74)).heap.size by simp), Nat.le_refl _⟩)
                        have HPART := Lib.hid (do_part (p := q) 124 (by decide) HXA.out HARG.out OPR.out HGO.out H93.out HRES.out ⟨rfl, rfl, rfl, rfl, Nat.lt_of_le_of_lt hjk HRT.out.1, hj1⟩ hf0 hjn)
                        go_wp2_with fail
                        refine HPART.out.mono ?_
                        rintro e w9 ⟨rfl, hl9, hm9⟩
                        have HL9 := Lib.hid hl9
                        clear hl9
                        go_wp2_with fail
                        exact ⟨HL9.out, by rw [HM0.out]; exact hm9⟩
          ·
            as_aux_lemma =>
              have HRX := Lib.hid (HERR.out (e, y) hgo)
              have HE := Lib.hid he
              have hwc := HX.out.wk
              cases hq94 : (ra == 94) with
              | true =>
                go_wp2_with fail
                refine (wk_good_no _ C A n c L i0 e y HX.out.wk HE.out).mono ?_
                rintro en w5 ⟨rfl, hw5⟩
                subst hw5
                go_wp2_with fail
                refine (wk_good_no _ C A n c L i0 e y HX.out.wk HE.out).mono ?_
                rintro en w5 ⟨rfl, hw5⟩
                subst hw5
                go_wp2_with fail
                go_ret
                rw [HRX.out]
                exact HX.out.done g2 ⟨HE.out, _, HX.out.wk⟩
              | false =>
                go_wp2_with fail
                refine (wk_good_no _ C A n c L i0 e y HX.out.wk HE.out).mono ?_
                rintro en w5 ⟨rfl, hw5⟩
                subst hw5
                go_wp2_with fail
                go_ret
                rw [HRX.out]
                exact HX.out.done g2 ⟨HE.out, _, HX.out.wk⟩

end Go.Proofs.YthnhbcohfoodlaaGreatDoor
