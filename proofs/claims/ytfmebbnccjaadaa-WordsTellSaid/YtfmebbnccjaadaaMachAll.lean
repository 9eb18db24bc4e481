/- The machine's struct in memory, and the text that it is behind match.Runes. -/
import Derived.Test.YtfmebbnccjaadaaHere
import Derived.Test.YtfmebbnccjaadaaGapAll
import Derived.Test.YtfmebbnccjaadaaHeadsMem
namespace Go.Proofs.Ytfmebbnccjaadaa
open Go.RowKit

theorem method_parts {t : TypeId} {name : String} {path : List FieldStep} {f : FuncId} (h : (Try.prog.info? t).map (fun i => (i.methods.find? (·.name == name)).map fun m => (m.path.toList, m.func)) = some (some (path, some (f, true)))) :
    ∃ i, Try.prog.info? t = some i ∧ ∃ m, i.methods.find? (·.name == name) = some m ∧ m.path.toList = path ∧ m.func = some (f, true) := by
  obtain ⟨i, hi, h2⟩ := Option.map_eq_some_iff.1 h
  obtain ⟨m, hm, h3⟩ := Option.map_eq_some_iff.1 h2
  simp only [Prod.mk.injEq] at h3
  exact ⟨i, hi, m, hm, h3.1, h3.2⟩
theorem mach_len (M : Nat) (w : World) (v : Value) (h : w.cell? ⟨M, 0, none⟩ = some v) : (method 299 119 (.pointer (some ⟨M, 0, none⟩)) "Len").run Try.prog w = .ok (72, v) w := by
  obtain ⟨i, hi, m, hm, hp, hf⟩ := method_parts (t := 119) (name := "Len") (path := [⟨124, 0, true⟩]) (f := 72) (by kernel_rfl)
  unfold method
  simp [go_sem, typeInfo, hi, hm, hp, hf, follow, receiverAt, Place.get, loadVar, h]

theorem mach_rune (M : Nat) (w : World) (v : Value) (h : w.cell? ⟨M, 0, none⟩ = some v) : (method 299 119 (.pointer (some ⟨M, 0, none⟩)) "Rune").run Try.prog w = .ok (109, v) w := by
  obtain ⟨i, hi, m, hm, hp, hf⟩ := method_parts (t := 119) (name := "Rune") (path := [⟨124, 0, true⟩]) (f := 109) (by kernel_rfl)
  unfold method
  simp [go_sem, typeInfo, hi, hm, hp, hf, follow, receiverAt, Place.get, loadVar, h]
theorem enters_len : ∀ args w, (callFunc 72 args).run Try.prog w = .ok (.enter 72 args) w := enters_of Try.func72 (by kernel_rfl) rfl
theorem enters_rune : ∀ args w, (callFunc 109 args).run Try.prog w = .ok (.enter 109 args) w := enters_of Try.func109 (by kernel_rfl) rfl
/-- Block M is a machine over the buffer b, which holds A and Z. -/
def MachR (lo M b : Nat) (A Z : List Int) (w : World) : Prop := w.cell? ⟨M, 0, none⟩ = some (.pointer (some ⟨b, 0, none⟩)) ∧ M < w.heap.size ∧ Buf lo w b A Z
theorem mach_text (lo M b : Nat) (A Z : List Int) : TextI 119 (.pointer (some ⟨M, 0, none⟩)) (.pointer (some ⟨b, 0, none⟩)) 72 109 (A ++ Z) (MachR lo M b A Z) where
  enterL := enters_len
  enterR := enters_rune
  ml := fun w h => mach_len M w _ h.1
  mr := fun w h => mach_rune M w _ h.1
  len := fun w h => by
    have := buf_len h.2.2
    rwa [← List.length_append] at this
  rune := fun w k x h hx => buf_rune h.2.2 k x hx
  keep := fun w w' h hb => ⟨(hb.cell (p := ⟨M, 0, none⟩) h.2.1).trans h.1, Nat.lt_of_lt_of_le h.2.1 hb.size, h.2.2.below hb⟩

/-! ### The first rule that matches, plain -/
def hereAt (l : List RuleD) (T : List Int) (q : Nat) (k : Int) : Bool := match l[k.toNat]? with | some r => hereP r T q | none => false
def whichIn (l : List RuleD) (T : List Int) (q : Nat) : List Int → Int
  | [] => -1
  | k :: ks => if hereAt l T q k = true then k else whichIn l T q ks
def upTo (n : Nat) : List Int := (List.range n).map fun i : Nat => (i : Int)
def whichP (l : List RuleD) (T : List Int) (q : Nat) : Int := whichIn l T q (upTo l.length)
theorem whichIn_filter (l : List RuleD) (T : List Int) (q : Nat) (m : Nat → Bool) : ∀ (ks : List Nat), (∀ k ∈ ks, m k = false → hereAt l T q (k : Int) = false) → whichIn l T q ((ks.filter m).map fun i : Nat => (i : Int)) = whichIn l T q (ks.map fun i : Nat => (i : Int)) := by
  intro ks
  induction ks with
  | nil => intro _; rfl
  | cons k ks ih =>
    intro h
    have h2 := ih (fun x hx => h x (by simp [hx]))
    cases hm : m k
    · rw [List.filter_cons_of_neg (by simp [hm]), h2, List.map_cons, whichIn, if_neg (by rw [h k (by simp) hm]; decide)]
    · rw [List.filter_cons_of_pos hm, List.map_cons, List.map_cons, whichIn, whichIn, h2]
theorem here_first {r : RuleD} {T : List Int} {q : Nat} {x : Int} (hs : r.source ≠ []) (hx : T[q]? = some x) (h : hasP (firstSet r) x = false) : hereP r T q = false := by
  have h1 : allP T q r.source = false := by
    cases hr : r.source with
    | nil => exact absurd hr hs
    | cons s l =>
      unfold allP
      split
      · rfl
      · have : firstSet r = s := by unfold firstSet; rw [hr]; rfl
        rw [this] at h
        rw [Int.toNat_natCast, drop_at hx, hasAll, h, Bool.false_and]
  unfold hereP
  rw [h1]
  simp
theorem which_begin {l : List RuleD} {T : List Int} {q : Nat} {x : Int} (hs : ∀ r ∈ l, r.source ≠ []) (hx : T[q]? = some x) : whichIn l T q (beginP l x) = whichP l T q := by
  unfold beginP beginUpto whichP upTo
  refine whichIn_filter l T q _ _ (fun k hk hm => ?_)
  unfold hereAt
  rw [Int.toNat_natCast]
  cases hl : l[k]? with
  | none => rfl
  | some r =>
    unfold mayB at hm
    rw [hl] at hm
    exact here_first (hs r (List.mem_of_getElem? hl)) hx hm
theorem whichIn_range (l : List RuleD) (T : List Int) (q : Nat) : ∀ ks : List Int, (∀ k ∈ ks, 0 ≤ k) → whichIn l T q ks = -1 ∨ ∃ (k : Nat) (r : RuleD), whichIn l T q ks = (k : Int) ∧ l[k]? = some r ∧ hereP r T q = true := by
  intro ks
  induction ks with
  | nil => intro _; exact .inl rfl
  | cons k ks ih =>
    intro h
    rw [whichIn]
    by_cases hk : hereAt l T q k = true
    · rw [if_pos hk]
      right
      unfold hereAt at hk
      cases hl : l[k.toNat]? with
      | none => rw [hl] at hk; cases hk
      | some r =>
        rw [hl] at hk
        exact ⟨k.toNat, r, by have := h k (by simp); omega, hl, hk⟩
    · rw [if_neg hk]
      exact ih (fun x hx => h x (by simp [hx]))
theorem whichP_range (l : List RuleD) (T : List Int) (q : Nat) : whichP l T q = -1 ∨ ∃ (k : Nat) (r : RuleD), whichP l T q = (k : Int) ∧ l[k]? = some r ∧ hereP r T q = true :=
  whichIn_range l T q _ (fun k hk => by
    unfold upTo at hk
    obtain ⟨i, _, rfl⟩ := List.mem_map.1 hk
    omega)

end Go.Proofs.Ytfmebbnccjaadaa

/- The walk of the machine's find: it tells the first rule that matches at the cursor. -/
namespace Go.Proofs.Ytfmebbnccjaadaa
open Go.RowKit

set_option maxHeartbeats 800000 in
theorem mfind_closure (gm gr M blk off n c i : Nat) (r y : Int) (w : World) (hi : i < n) (hm : w.cell? ⟨gm, 0, none⟩ = some (.pointer (some ⟨M, 0, none⟩))) (ha : w.cell? ⟨M, 2, none⟩ = some (.slice (some ⟨blk, off, none⟩) n c)) (hr : w.cell? ⟨gr, 0, none⟩ = some (.int .i32 r)) (hc : w.cell? ⟨blk, off + i * 3 + 1, none⟩ = some (.int .i32 y)) :
    Calls Try.prog 110 (#[.int .i64 i] ++ #[.pointer (some ⟨gm, 0, none⟩), .pointer (some ⟨gr, 0, none⟩)]) w fun e w' => e = .returned (.bool (decide (r ≤ y))) ∧ Below w.heap.size w w' := by
  have hiz : (i : Int) < (n : Int) := by omega
  go_enter Try.func110, Try.ntmps110
  go_wp2_with fail
  go_quiet (fail)
  go_wp2_with fail
  go_ret
  exact ⟨rfl, below_drewN (Below.refl _ _) _⟩
theorem enters_mfind : ∀ args w, (callFunc 110 args).run Try.prog w = .ok (.enter 110 args) w := enters_of Try.func110 (by kernel_rfl) rfl

/-- The machine's block. -/
def MCells (b : Nat) (Ar : Option Addr) (nr cr : Nat) (Ah : Option Addr) (nh ch : Nat) (lim s p : Int) : Array Value := #[.pointer (some ⟨b, 0, none⟩), .slice Ar nr cr, .slice Ah nh ch, .int .i64 lim, .slice none 0 0, .int .i64 s, .int .i64 p]
/-- The machine: its block, its buffer, its rules and heads. -/
structure MachAt (lo : Nat) (w : World) (M b : Nat) (A Z : List Int) (l : List RuleD) (hs : List HeadD) (Ar : Option Addr) (nr cr : Nat) (Ah : Option Addr) (nh ch : Nat) (lim s p : Int) : Prop where
  ge : lo ≤ M
  blk : Blk w M 124 (MCells b Ar nr cr Ah nh ch lim s p)
  buf : Buf lo w b A Z
  rules : ListX (RuleC w (fun x => x < lo)) w (fun x => x < lo) 7 Ar nr l
  heads : ListX (HeadC w (fun x => x < lo)) w (fun x => x < lo) 3 Ah nh hs
theorem MachAt.below {lo : Nat} {w w' : World} {M b : Nat} {A Z : List Int} {l : List RuleD} {hs : List HeadD} {Ar : Option Addr} {nr cr : Nat} {Ah : Option Addr} {nh ch : Nat} {lim s p : Int} (h : MachAt lo w M b A Z l hs Ar nr cr Ah nh ch lim s p) (hb : Below w.heap.size w w') : MachAt lo w' M b A Z l hs Ar nr cr Ah nh ch lim s p :=
  ⟨h.ge, Blk.below h.blk hb h.blk.lt, h.buf.below hb, h.rules.keep (Keeps.any hb) (fun _ _ => RuleC.keep (Keeps.any hb)), h.heads.keep (Keeps.any hb) (fun _ _ => HeadC.keep (Keeps.any hb))⟩

set_option maxRecDepth 100000 in
set_option maxHeartbeats 3200000 in
theorem mach_find {lo : Nat} {w : World} {M b : Nat} {A Z : List Int} {l : List RuleD} {hs : List HeadD} {Ar : Option Addr} {nr cr : Nat} {Ah : Option Addr} {nh ch : Nat} {lim s p : Int} (h : MachAt lo w M b A Z l hs Ar nr cr Ah nh ch lim s p)
    (x : Int) (hx : (A ++ Z)[A.length]? = some x) (hx0 : 0 ≤ x ∧ x ≤ 1114111) (hT : (A ++ Z).length ≤ 100000) (hnh : nh ≤ 400) (hcov : Cover l hs 1114112) (hR : ∀ r ∈ l, RightRule r) (hlen : l.length ≤ 200) :
    Calls Try.prog 95 #[.pointer (some ⟨M, 0, none⟩)] w fun e w' => e = .returned (.int .i64 (whichP l (A ++ Z) A.length)) ∧ Below w.heap.size w w' := by
  have hbl := (Below.refl w.heap.size w).alloc (Nat.le_refl _) (.cells #[.pointer (some ⟨M, 0, none⟩)] 119)
  have H := Lib.hid h
  have HX := Lib.hid hx
  have HCOV := Lib.hid hcov
  have HRR := Lib.hid hR
  have HNH := Lib.hid (show hs.length = nh from h.heads.len)
  have HNR := Lib.hid (show l.length = nr from h.rules.len)
  have HM1 := Lib.hid (h.below hbl)
  have HG := Lib.hid (Blk.new w 119 #[.pointer (some ⟨M, 0, none⟩)])
  have HB0 := Lib.hid hbl
  clear h hx hcov hR hbl
  go_enter Try.func95, Try.ntmps95
  go_wp2_with fail
  generalize hW1 : w.alloc (.cells #[.pointer (some ⟨M, 0, none⟩)] 119) = W1 at *
  have g0 := HG.out.cell 0
  have c0 := HM1.out.blk.cell 0
  have hgl := HG.out.lt
  have hml := HM1.out.blk.lt
  have HAT := Lib.hid (fun (W : World) (hb : Below W1.heap.size W1 W) => buf_at (HM1.out.buf.below hb))
  have HRN := Lib.hid (fun (W : World) (hb : Below W1.heap.size W1 W) => buf_rune (HM1.out.buf.below hb) A.length x HX.out)
  clear hW1
  have HC := Lib.hid (fun (W : World) (hb : Below W1.heap.size W1 W) => show W.cell? ⟨w.heap.size, 0, none⟩ = some (.pointer (some ⟨M, 0, none⟩)) ∧ W.cell? ⟨M, 0, none⟩ = some (.pointer (some ⟨b, 0, none⟩)) from ⟨(hb.cell (p := ⟨w.heap.size, 0, none⟩) hgl).trans g0, (hb.cell (p := ⟨M, 0, none⟩) hml).trans c0⟩)
  go_upto_region 1 with fail
  go_cut [3] (fun s3 wx => ∃ G, s3 = .pointer (some ⟨G, 0, none⟩) ∧ Blk wx G 21 #[.int .i32 x] ∧ Below W1.heap.size W1 wx)
  case first =>
    refine wp_region_till (S := fun w' => w'.cell? ⟨w.heap.size, 0, none⟩ = some (.pointer (some ⟨M, 0, none⟩)) ∧ w'.cell? ⟨M, 0, none⟩ = some (.pointer (some ⟨b, 0, none⟩))) [0, 3, 4, 7] (by kernel_rfl) ⟨g0, c0⟩ (fun hHeld => ?_)
    refine wpTill_take (i := 0) (oi := ⟨some 7, _, _, _, _, _⟩) (v := ?_) rfl (by kernel_rfl) (by kernel_rfl) (by kernel_rfl) (by kernel_rfl) (by kernel_rfl) (fun _ _ _ h => h) (Or.inl ⟨by rfl, ?_⟩) (by assumption) ?_
    rotate_left 1
    · intro wq hSw
      (try dsimp only at hSw)
      go_simp
      try with_reducible rfl
    try simp only [Act.put, List.setIfInBounds_toArray, List.set_cons_zero, List.set_cons_succ]
    refine wpTill_pure (i := 1) (oi := ⟨some 8, _, _, _, _, _⟩) (v := ?_) rfl (by kernel_rfl) (by kernel_rfl) (by kernel_rfl) (fun _ _ _ h => h) (Or.inl ⟨by rfl, ?_⟩) ?_
    rotate_left 1
    · intro wq _
      go_simp
      try with_reducible rfl
    try simp only [Act.put, List.setIfInBounds_toArray, List.set_cons_zero, List.set_cons_succ]
    refine wpTill_pure (i := 2) (oi := ⟨some 9, _, _, _, _, _⟩) (v := ?_) rfl (by kernel_rfl) (by kernel_rfl) (by kernel_rfl) (fun _ _ _ h => h) (Or.inl ⟨by rfl, ?_⟩) ?_
    rotate_left 1
    · intro wq _
      go_simp
      try with_reducible rfl
    try simp only [Act.put, List.setIfInBounds_toArray, List.set_cons_zero, List.set_cons_succ]
    refine wpTill_take (i := 3) (oi := ⟨some 10, _, _, _, _, _⟩) (v := ?_) rfl (by kernel_rfl) (by kernel_rfl) (by kernel_rfl) (by kernel_rfl) (by kernel_rfl) (fun _ _ _ h => h) (Or.inl ⟨by rfl, ?_⟩) (by assumption) ?_
    rotate_left 1
    · intro wq hSw
      (try dsimp only at hSw)
      go_simp
      try with_reducible rfl
    try simp only [Act.put, List.setIfInBounds_toArray, List.set_cons_zero, List.set_cons_succ]
    refine wpTill_take (i := 4) (oi := ⟨some 11, _, _, _, _, _⟩) (v := ?_) rfl (by kernel_rfl) (by kernel_rfl) (by kernel_rfl) (by kernel_rfl) (by kernel_rfl) (fun _ _ _ h => h) (Or.inl ⟨by rfl, ?_⟩) (by assumption) ?_
    rotate_left 1
    · intro wq hSw
      (try dsimp only at hSw)
      go_simp
      try with_reducible rfl
    try simp only [Act.put, List.setIfInBounds_toArray, List.set_cons_zero, List.set_cons_succ]
    refine wpTill_pure (i := 5) (oi := ⟨some 12, _, _, _, _, _⟩) (v := ?_) rfl (by kernel_rfl) (by kernel_rfl) (by kernel_rfl) (fun _ _ _ h => h) (Or.inl ⟨by rfl, ?_⟩) ?_
    rotate_left 1
    · intro wq _
      go_simp
      try with_reducible rfl
    try simp only [Act.put, List.setIfInBounds_toArray, List.set_cons_zero, List.set_cons_succ]
    refine wpTill_pure (i := 6) (oi := ⟨some 13, _, _, _, _, _⟩) (v := ?_) rfl (by kernel_rfl) (by kernel_rfl) (by kernel_rfl) (fun _ _ _ h => h) (Or.inl ⟨by rfl, ?_⟩) ?_
    rotate_left 1
    · intro wq _
      go_simp
      try with_reducible rfl
    try simp only [Act.put, List.setIfInBounds_toArray, List.set_cons_zero, List.set_cons_succ]
    refine wpTill_take (i := 7) (oi := ⟨some 14, _, _, _, _, _⟩) (v := ?_) rfl (by kernel_rfl) (by kernel_rfl) (by kernel_rfl) (by kernel_rfl) (by kernel_rfl) (fun _ _ _ h => h) (Or.inl ⟨by rfl, ?_⟩) (by assumption) ?_
    rotate_left 1
    · intro wq hSw
      (try dsimp only at hSw)
      go_simp
      try with_reducible rfl
    try simp only [Act.put, List.setIfInBounds_toArray, List.set_cons_zero, List.set_cons_succ]
    refine wpTill_two (i := 8) (j := 10) (o := ⟨some 15, _, _, _, _, _⟩) (o2 := ⟨some 3, _, _, _, _, _⟩) (by kernel_rfl) rfl rfl (fun K hK => ?_) (fun K hK => ?_)
    · go_simp
      go_at_call 71
      refine (HAT.out _ (below_drew1 (Below.refl W1.heap.size W1))).mono ?_
      rintro e w2 ⟨rfl, rfl⟩
      try dsimp only
      refine hK.out _ _ ?_ (fun hHeld => ?_)
      · exact HC.out _ (below_drew1 (Below.refl W1.heap.size W1))
      clear hK K
      try simp only [Act.put, List.setIfInBounds_toArray, List.set_cons_zero, List.set_cons_succ]
      refine wpTill_two (i := 9) (j := 10) (o := ⟨some 16, _, _, _, _, _⟩) (o2 := ⟨some 3, _, _, _, _, _⟩) (by kernel_rfl) rfl rfl (fun K hK => ?_) (fun K hK => ?_)
      · go_simp
        go_at_call 109
        refine (HRN.out _ (below_drew1 (Below.refl W1.heap.size W1))).mono ?_
        rintro e w2 ⟨rfl, k2, hw2⟩
        have HB2 := Lib.hid (show Below W1.heap.size W1 w2 by rw [hw2]; exact below_drewN (below_drew1 (Below.refl W1.heap.size W1)) k2)
        clear hw2
        try dsimp only
        refine hK.out _ _ ?_ (fun hHeld => ?_)
        · exact HC.out _ HB2.out
        clear hK K
        try simp only [Act.put, List.setIfInBounds_toArray, List.set_cons_zero, List.set_cons_succ]
        refine wpTill_one (i := 10) (o := ⟨some 3, _, _, _, _, _⟩) (by kernel_rfl) rfl (fun K hK => ?_)
        go_simp
        try dsimp only
        refine hK.out _ _ ?_ (fun hHeld => ?_)
        · exact HC.out _ (HB2.out.alloc HB2.out.size _)
        clear hK K
        try simp only [Act.put, List.setIfInBounds_toArray, List.set_cons_zero, List.set_cons_succ]
        refine wpTill_late (i := 11) (by kernel_rfl) rfl (by kernel_rfl) (fun K hK => ?_)
        go_simp
        try dsimp only
        refine hK.out _ _ ?_
        clear hK K
        refine wpTill_done (by kernel_rfl) ?_ _
        go_simp
        go_wp2_with fail
        go_meet
        exact ⟨w2.heap.size, rfl, Blk.new _ _ _, HB2.out.alloc HB2.out.size _⟩
      · go_simp
        try dsimp only
        refine hK.out _ _ ?_ (fun hHeld => ?_)
        · exact HC.out _ (below_drew1 ((Below.refl W1.heap.size W1).alloc (Nat.le_refl _) (.cells #[.int .i32 0] 21)))
        clear hK K
        try simp only [Act.put, List.setIfInBounds_toArray, List.set_cons_zero, List.set_cons_succ]
        refine wpTill_one (i := 9) (o := ⟨some 16, _, _, _, _, _⟩) (by kernel_rfl) rfl (fun K hK => ?_)
        go_simp
        go_at_call 109
        refine (HRN.out _ (below_drew1 ((Below.refl W1.heap.size W1).alloc (Nat.le_refl _) (.cells #[.int .i32 0] 21)))).mono ?_
        rintro e w2 ⟨rfl, k2, hw2⟩
        have HB2 := Lib.hid (show Below W1.heap.size W1 w2 by rw [hw2]; exact below_drewN (below_drew1 ((Below.refl W1.heap.size W1).alloc (Nat.le_refl _) (.cells #[.int .i32 0] 21))) k2)
        have HZ2 := Lib.hid (show Blk w2 W1.heap.size 21 #[.int .i32 0] by rw [hw2]; exact Blk.new W1 21 #[.int .i32 0])
        clear hw2
        try dsimp only
        refine hK.out _ _ ?_ (fun hHeld => ?_)
        · exact HC.out _ HB2.out
        clear hK K
        try simp only [Act.put, List.setIfInBounds_toArray, List.set_cons_zero, List.set_cons_succ]
        refine wpTill_late (i := 11) (by kernel_rfl) rfl (by kernel_rfl) (fun K hK => ?_)
        have z0 := HZ2.out.cell 0
        have z1 := HZ2.out.frozen 0
        go_simp
        try dsimp only
        refine hK.out _ _ ?_
        clear hK K
        refine wpTill_done (by kernel_rfl) ?_ _
        go_simp
        go_wp2_with fail
        go_meet
        exact ⟨W1.heap.size, rfl, HZ2.out.put 0 _, HB2.out.setCell (Nat.le_refl _) _⟩
    · go_simp
      try dsimp only
      refine hK.out _ _ ?_ (fun hHeld => ?_)
      · exact HC.out _ (below_drew1 ((Below.refl W1.heap.size W1).alloc (Nat.le_refl _) (.cells #[.int .i32 0] 21)))
      clear hK K
      try simp only [Act.put, List.setIfInBounds_toArray, List.set_cons_zero, List.set_cons_succ]
      refine wpTill_one (i := 8) (o := ⟨some 15, _, _, _, _, _⟩) (by kernel_rfl) rfl (fun K hK => ?_)
      go_simp
      go_at_call 71
      refine (HAT.out _ (below_drew1 ((Below.refl W1.heap.size W1).alloc (Nat.le_refl _) (.cells #[.int .i32 0] 21)))).mono ?_
      rintro e w2 ⟨rfl, rfl⟩
      try dsimp only
      refine hK.out _ _ ?_ (fun hHeld => ?_)
      · exact HC.out _ (below_drew1 ((Below.refl W1.heap.size W1).alloc (Nat.le_refl _) (.cells #[.int .i32 0] 21)))
      clear hK K
      try simp only [Act.put, List.setIfInBounds_toArray, List.set_cons_zero, List.set_cons_succ]
      refine wpTill_one (i := 9) (o := ⟨some 16, _, _, _, _, _⟩) (by kernel_rfl) rfl (fun K hK => ?_)
      go_simp
      go_at_call 109
      refine (HRN.out _ (below_drew1 ((Below.refl W1.heap.size W1).alloc (Nat.le_refl _) (.cells #[.int .i32 0] 21)))).mono ?_
      rintro e w2 ⟨rfl, k2, hw2⟩
      have HB2 := Lib.hid (show Below W1.heap.size W1 w2 by rw [hw2]; exact below_drewN (below_drew1 ((Below.refl W1.heap.size W1).alloc (Nat.le_refl _) (.cells #[.int .i32 0] 21))) k2)
      have HZ2 := Lib.hid (show Blk w2 W1.heap.size 21 #[.int .i32 0] by rw [hw2]; exact Blk.new W1 21 #[.int .i32 0])
      clear hw2
      try dsimp only
      refine hK.out _ _ ?_ (fun hHeld => ?_)
      · exact HC.out _ HB2.out
      clear hK K
      try simp only [Act.put, List.setIfInBounds_toArray, List.set_cons_zero, List.set_cons_succ]
      refine wpTill_late (i := 11) (by kernel_rfl) rfl (by kernel_rfl) (fun K hK => ?_)
      have z0 := HZ2.out.cell 0
      have z1 := HZ2.out.frozen 0
      go_simp
      try dsimp only
      refine hK.out _ _ ?_
      clear hK K
      refine wpTill_done (by kernel_rfl) ?_ _
      go_simp
      go_wp2_with fail
      go_meet
      exact ⟨W1.heap.size, rfl, HZ2.out.put 0 _, HB2.out.setCell (Nat.le_refl _) _⟩
  case rest =>
    obtain ⟨G, rfl, hGx, hbx⟩ := hcut
    have HBX := Lib.hid hbx
    have HGX := Lib.hid hGx
    have HMC := Lib.hid (HM1.out.below hbx)
    have HF := Lib.hid (Blk.below HG.out hbx hgl)
    have t0 := HF.out.cell 0
    have t2 : wc.cell? ⟨M, 2, none⟩ = some (.slice Ah nh ch) := HMC.out.blk.cell 2
    have HSS := Lib.hid (sort_search 110 #[.pointer (some ⟨w.heap.size, 0, none⟩), .pointer (some ⟨G, 0, none⟩)] nh (fun i => decide (x ≤ (hs[i]?.getD ⟨0, 0, []⟩).high)) wc enters_mfind (by omega)
      (fun w' i hb hi => by
        obtain ⟨y, hy⟩ : ∃ z, hs[i]? = some z := ⟨_, List.getElem?_eq_getElem (by rw [HNH.out]; exact hi)⟩
        obtain ⟨hb', hoff, A', c', rfl, _, hbb, _, c1, _⟩ := head_at (HMC.out.below hb).heads hy
        rw [hy]
        exact mfind_closure w.heap.size G M hb' hoff nh ch i x y.high w' hi ((Blk.below HF.out hb HF.out.lt).cell 0) ((HMC.out.below hb).blk.cell 2) ((Blk.below HGX.out hb HGX.out.lt).cell 0) c1)
      (fun a b hab hb h => by
        obtain ⟨y, hy⟩ : ∃ z, hs[a]? = some z := ⟨_, List.getElem?_eq_getElem (by rw [HNH.out]; omega)⟩
        obtain ⟨z, hz⟩ : ∃ z, hs[b]? = some z := ⟨_, List.getElem?_eq_getElem (by rw [HNH.out]; omega)⟩
        simp only [hy, hz, Option.getD_some, decide_eq_true_eq] at h ⊢
        have := HCOV.out.rises a b y z hab hy hz
        omega))
    clear hGx hbx g0 c0
    go_wp2_with fail
    refine HSS.out.mono ?_
    rintro e w2 ⟨k, rfl, hk, h1, h2, hb⟩
    obtain ⟨y, hy, hyr⟩ := HCOV.out.head (r := x) (k := k) (fun t z ht hz => by
        have := h1 t ht
        rw [hz] at this
        simpa using this) (fun t z ht hz => by
        have := h2 t ht (by rw [← HNH.out]; exact (List.getElem?_eq_some_iff.1 hz).1)
        rw [hz] at this
        simpa using this) hx0.1 hx0.2
    have hkn : k < nh := by rw [← HNH.out]; exact (List.getElem?_eq_some_iff.1 hy).1
    have HMD := Lib.hid (HMC.out.below hb)
    have HFD := Lib.hid (Blk.below HF.out hb HF.out.lt)
    have HBD := Lib.hid (HB0.out.trans ((HBX.out.trans (hb.mono HBX.out.size)).mono HB0.out.size))
    obtain ⟨hb', hoff, Ab, cb, rfl, _, hbb, _, _, e2, hri, _, hbl⟩ := head_at HMD.out.heads hy
    rw [hyr] at e2 hri hbl
    have d0 := HFD.out.cell 0
    have d2 : w2.cell? ⟨M, 2, none⟩ = some (.slice (some ⟨hb', hoff, none⟩) nh ch) := HMD.out.blk.cell 2
    have HRI := Lib.hid hri
    have HWI := Lib.hid (which_begin (l := l) (T := A ++ Z) (q := A.length) (fun r hr => (HRR.out r hr).src) HX.out)
    have HBEG := Lib.hid (show ∀ k ∈ beginP l x, ∃ q : Nat, k = (q : Int) ∧ q < l.length from fun k hk => by
      unfold beginP beginUpto at hk
      obtain ⟨q, hq, rfl⟩ := List.mem_map.1 hk
      exact ⟨q, rfl, List.mem_range.1 (List.mem_filter.1 hq).1⟩)
    have hbeg : (beginP l x).length ≤ 200 := Nat.le_trans (begin_len l x) hlen
    generalize hBB : beginP l x = BB at *
    generalize hbn : BB.length = bn at *
    have HBN := Lib.hid hbn
    clear h1 h2 hb hy hyr hri hBB hbn HSS t0 t2
    go_wp2_with fail
    go_loopw [33] (fun i wr => ∃ j : Nat, j ≤ bn ∧ i = .int .i64 j ∧ whichIn l (A ++ Z) A.length BB = whichIn l (A ++ Z) A.length (BB.drop j) ∧ Below w2.heap.size w2 wr) (fun i _ => bn - (intOf i).toNat)
    case atStart => exact ⟨0, Nat.zero_le _, rfl, rfl, Below.refl _ _⟩
    case round =>
      obtain ⟨j, hj, rfl, hgo, hb⟩ := hrel
      have HMW := Lib.hid (HMD.out.below hb)
      have HBR := Lib.hid (HBD.out.trans (hb.mono HBD.out.size))
      have HBJ := Lib.hid hb
      by_cases hlt : j < bn
      · obtain ⟨kk, hkk⟩ : ∃ z, BB[j]? = some z := ⟨_, List.getElem?_eq_getElem (by rw [HBN.out]; exact hlt)⟩
        obtain ⟨kn, rfl, hkl⟩ := HBEG.out kk (List.mem_of_getElem? hkk)
        obtain ⟨r, hr⟩ : ∃ z, l[kn]? = some z := ⟨_, List.getElem?_eq_getElem hkl⟩
        obtain ⟨vb, vo, rfl, hvb, hvc⟩ := HRI.out.at hkk
        have v0 := (HBJ.out.cell (p := ⟨vb, vo + j, none⟩) hvb).trans hvc
        obtain ⟨rb, ro, A1, A2, A3, A4, n1, c1, n2, c2, n3, c3, n4, c4, rfl, _, hra⟩ := rule_is HMW.out.rules hr
        have HHR := Lib.hid (match_here (mach_text lo M b A Z) (fun x => x < lo) r rb (ro + kn * 7) A1 A2 A3 A4 n1 c1 n2 c2 n3 c3 n4 c4 A.length wr.drew hT (by rw [List.length_append]; omega) (HRR.out r (List.mem_of_getElem? hr)) (hra.below (below_drew1 (Below.refl _ _))) ⟨HMW.out.blk.cell 0, HMW.out.blk.lt, HMW.out.buf.below (below_drew1 (Below.refl wr.heap.size wr))⟩)
        have HH := Lib.hid (show hereAt l (A ++ Z) A.length (kn : Int) = hereP r (A ++ Z) A.length by unfold hereAt; rw [Int.toNat_natCast, hr])
        have HGO := Lib.hid (hgo.trans (show whichIn l (A ++ Z) A.length (BB.drop j) = if hereAt l (A ++ Z) A.length (kn : Int) = true then (kn : Int) else whichIn l (A ++ Z) A.length (BB.drop (j + 1)) by rw [drop_at hkk, whichIn]))
        have hknr : kn < nr := by rw [← HNR.out]; exact hkl
        have u0 := (Blk.below HFD.out hb HFD.out.lt).cell 0
        have u1 : wr.cell? ⟨M, 0, none⟩ = some (.pointer (some ⟨b, 0, none⟩)) := HMW.out.blk.cell 0
        have u2 : wr.cell? ⟨M, 1, none⟩ = some (.slice (some ⟨rb, ro, none⟩) nr cr) := HMW.out.blk.cell 1
        clear hkk hr hvc hra hgo hb
        go_upto_region 6 with fail
        refine wp_region_till (S := fun w' => w'.cell? ⟨w.heap.size, 0, none⟩ = some (.pointer (some ⟨M, 0, none⟩)) ∧ w'.cell? ⟨M, 0, none⟩ = some (.pointer (some ⟨b, 0, none⟩)) ∧ w'.cell? ⟨M, 1, none⟩ = some (.slice (some ⟨rb, ro, none⟩) nr cr)) [0, 3, 6, 8, 11] (by kernel_rfl) ⟨u0, u1, u2⟩ (fun hHeld => ?_)
        refine wpTill_take (i := 0) (oi := ⟨some 37, _, _, _, _, _⟩) (v := ?_) rfl (by kernel_rfl) (by kernel_rfl) (by kernel_rfl) (by kernel_rfl) (by kernel_rfl) (fun _ _ _ h => h) (Or.inl ⟨by rfl, ?_⟩) (by assumption) ?_
        rotate_left 1
        · intro wq hSw
          (try dsimp only at hSw)
          go_simp
          try with_reducible rfl
        try simp only [Act.put, List.setIfInBounds_toArray, List.set_cons_zero, List.set_cons_succ]
        refine wpTill_pure (i := 1) (oi := ⟨some 38, _, _, _, _, _⟩) (v := ?_) rfl (by kernel_rfl) (by kernel_rfl) (by kernel_rfl) (fun _ _ _ h => h) (Or.inl ⟨by rfl, ?_⟩) ?_
        rotate_left 1
        · intro wq _
          go_simp
          try with_reducible rfl
        try simp only [Act.put, List.setIfInBounds_toArray, List.set_cons_zero, List.set_cons_succ]
        refine wpTill_pure (i := 2) (oi := ⟨some 39, _, _, _, _, _⟩) (v := ?_) rfl (by kernel_rfl) (by kernel_rfl) (by kernel_rfl) (fun _ _ _ h => h) (Or.inl ⟨by rfl, ?_⟩) ?_
        rotate_left 1
        · intro wq _
          go_simp
          try with_reducible rfl
        try simp only [Act.put, List.setIfInBounds_toArray, List.set_cons_zero, List.set_cons_succ]
        refine wpTill_take (i := 3) (oi := ⟨some 40, _, _, _, _, _⟩) (v := ?_) rfl (by kernel_rfl) (by kernel_rfl) (by kernel_rfl) (by kernel_rfl) (by kernel_rfl) (fun _ _ _ h => h) (Or.inl ⟨by rfl, ?_⟩) (by assumption) ?_
        rotate_left 1
        · intro wq hSw
          (try dsimp only at hSw)
          go_simp
          try with_reducible rfl
        try simp only [Act.put, List.setIfInBounds_toArray, List.set_cons_zero, List.set_cons_succ]
        refine wpTill_pure (i := 4) (oi := ⟨some 41, _, _, _, _, _⟩) (v := ?_) rfl (by kernel_rfl) (by kernel_rfl) (by kernel_rfl) (fun _ _ _ h => h) (Or.inl ⟨by rfl, ?_⟩) ?_
        rotate_left 1
        · intro wq _
          go_simp
          try with_reducible rfl
        try simp only [Act.put, List.setIfInBounds_toArray, List.set_cons_zero, List.set_cons_succ]
        refine wpTill_pure (i := 5) (oi := ⟨some 42, _, _, _, _, _⟩) (v := ?_) rfl (by kernel_rfl) (by kernel_rfl) (by kernel_rfl) (fun _ _ _ h => h) (Or.inl ⟨by rfl, ?_⟩) ?_
        rotate_left 1
        · intro wq _
          go_simp
          try with_reducible rfl
        try simp only [Act.put, List.setIfInBounds_toArray, List.set_cons_zero, List.set_cons_succ]
        refine wpTill_take (i := 6) (oi := ⟨some 43, _, _, _, _, _⟩) (v := ?_) rfl (by kernel_rfl) (by kernel_rfl) (by kernel_rfl) (by kernel_rfl) (by kernel_rfl) (fun _ _ _ h => h) (Or.inl ⟨by rfl, ?_⟩) (by assumption) ?_
        rotate_left 1
        · intro wq hSw
          (try dsimp only at hSw)
          go_simp
          try with_reducible rfl
        try simp only [Act.put, List.setIfInBounds_toArray, List.set_cons_zero, List.set_cons_succ]
        refine wpTill_pure (i := 7) (oi := ⟨some 44, _, _, _, _, _⟩) (v := ?_) rfl (by kernel_rfl) (by kernel_rfl) (by kernel_rfl) (fun _ _ _ h => h) (Or.inl ⟨by rfl, ?_⟩) ?_
        rotate_left 1
        · intro wq _
          go_simp
          try with_reducible rfl
        try simp only [Act.put, List.setIfInBounds_toArray, List.set_cons_zero, List.set_cons_succ]
        refine wpTill_take (i := 8) (oi := ⟨some 45, _, _, _, _, _⟩) (v := ?_) rfl (by kernel_rfl) (by kernel_rfl) (by kernel_rfl) (by kernel_rfl) (by kernel_rfl) (fun _ _ _ h => h) (Or.inl ⟨by rfl, ?_⟩) (by assumption) ?_
        rotate_left 1
        · intro wq hSw
          (try dsimp only at hSw)
          go_simp
          try with_reducible rfl
        try simp only [Act.put, List.setIfInBounds_toArray, List.set_cons_zero, List.set_cons_succ]
        refine wpTill_pure (i := 9) (oi := ⟨some 46, _, _, _, _, _⟩) (v := ?_) rfl (by kernel_rfl) (by kernel_rfl) (by kernel_rfl) (fun _ _ _ h => h) (Or.inl ⟨by rfl, ?_⟩) ?_
        rotate_left 1
        · intro wq _
          go_simp
          try with_reducible rfl
        try simp only [Act.put, List.setIfInBounds_toArray, List.set_cons_zero, List.set_cons_succ]
        refine wpTill_pure (i := 10) (oi := ⟨some 47, _, _, _, _, _⟩) (v := ?_) rfl (by kernel_rfl) (by kernel_rfl) (by kernel_rfl) (fun _ _ _ h => h) (Or.inl ⟨by rfl, ?_⟩) ?_
        rotate_left 1
        · intro wq _
          go_simp
          try with_reducible rfl
        try simp only [Act.put, List.setIfInBounds_toArray, List.set_cons_zero, List.set_cons_succ]
        refine wpTill_take (i := 11) (oi := ⟨some 48, _, _, _, _, _⟩) (v := ?_) rfl (by kernel_rfl) (by kernel_rfl) (by kernel_rfl) (by kernel_rfl) (by kernel_rfl) (fun _ _ _ h => h) (Or.inl ⟨by rfl, ?_⟩) (by assumption) ?_
        rotate_left 1
        · intro wq hSw
          (try dsimp only at hSw)
          go_simp
          try with_reducible rfl
        try simp only [Act.put, List.setIfInBounds_toArray, List.set_cons_zero, List.set_cons_succ]
        refine wpTill_one (i := 12) (o := ⟨some 49, _, _, _, _, _⟩) (by kernel_rfl) rfl (fun K hK => ?_)
        go_simp
        go_at_call 71
        refine (buf_at (HMW.out.buf.below (below_drew1 (Below.refl wr.heap.size wr)))).mono ?_
        rintro e w2 ⟨rfl, rfl⟩
        try dsimp only
        refine hK.out _ _ ?_ (fun hHeld => ?_)
        · exact ⟨u0, u1, u2⟩
        clear hK K
        try simp only [Act.put, List.setIfInBounds_toArray, List.set_cons_zero, List.set_cons_succ]
        refine wpTill_late (i := 13) (o := ⟨some 50, _, _, _, _, _⟩) (by kernel_rfl) rfl (by kernel_rfl) (fun K hK => ?_)
        go_simp
        go_at_call 103
        refine HHR.out.mono ?_
        rintro e w3 ⟨rfl, hb3⟩
        have hb3' : Below wr.heap.size wr w3 := (below_drew1 (Below.refl wr.heap.size wr)).trans hb3
        have HB3 := Lib.hid (HBR.out.trans (hb3'.mono HBR.out.size))
        have HB4 := Lib.hid (HBJ.out.trans (hb3'.mono HBJ.out.size))
        clear hb3 hb3' HHR
        try dsimp only
        refine hK.out _ _ ?_
        clear hK K
        try simp only [Act.put, List.setIfInBounds_toArray, List.set_cons_zero, List.set_cons_succ]
        refine wpTill_done (by kernel_rfl) ?_ _
        cases hh : hereP r (A ++ Z) A.length
        · have HG2 := Lib.hid (HGO.out.trans (if_neg (by rw [HH.out, hh]; decide)))
          clear hh
          go_simp
          go_wp2_with fail
          exact ⟨⟨j + 1, by omega, by go_num, HG2.out, HB4.out⟩, by simp [intOf]; omega⟩
        · have HG2 := Lib.hid (HGO.out.trans (if_pos (by rw [HH.out, hh])))
          clear hh
          go_simp
          go_wp2_with fail
          go_ret
          rw [← HWI.out, HG2.out]
          exact ⟨rfl, HB3.out⟩
      · obtain rfl : j = bn := by omega
        rw [List.drop_of_length_le (by rw [HBN.out]; exact Nat.le_refl _)] at hgo
        have HG2 := Lib.hid (HWI.out.symm.trans hgo)
        clear hgo hb
        go_wp2_with fail
        go_ret
        rw [HG2.out]
        exact ⟨rfl, HBR.out⟩

end Go.Proofs.Ytfmebbnccjaadaa

/- The machine in memory: what a step's stores and calls make of it. -/
namespace Go.Proofs.Ytfmebbnccjaadaa
open Go.RowKit

section
variable {lo : Nat} {w w' : World} {M b : Nat} {A Z A' Z' : List Int} {l : List RuleD} {hs : List HeadD} {Ar : Option Addr} {nr cr : Nat} {Ah : Option Addr} {nh ch : Nat} {lim s p : Int}
theorem keeps_lo {X : Nat → Prop} (hb : Below lo w w') (hX : ∀ x, X x → x < lo) : Keeps w X w' X := fun x hx hl => ⟨hb.block x (hX x hx), hx, Nat.lt_of_lt_of_le hl hb.size⟩
theorem MachAt.kp (h : MachAt lo w M b A Z l hs Ar nr cr Ah nh ch lim s p) (hk : Kp lo w w') (hb : Buf lo w' b A' Z') : MachAt lo w' M b A' Z' l hs Ar nr cr Ah nh ch lim s p :=
  ⟨h.ge, hk.other M _ _ h.blk (by decide) (by decide), hb, h.rules.keep (keeps_lo hk.below (fun _ h => h)) (fun _ _ => RuleC.keep (keeps_lo hk.below (fun _ h => h))), h.heads.keep (keeps_lo hk.below (fun _ h => h)) (fun _ _ => HeadC.keep (keeps_lo hk.below (fun _ h => h)))⟩
theorem Buf.mset (h : Buf lo w b A Z) {cs : Array Value} (hM : Blk w M 124 cs) (i : Nat) (u : Value) : Buf lo (w.setCell ⟨M, i, none⟩ u) b A Z := by
  obtain ⟨L, n, D, f, t, h1, h2⟩ := h
  exact ⟨L, n, D, f, t, ⟨h1.buf.other hM (by decide) i u, h1.row.other hM (by decide) i u, h1.len, h1.le, h1.end_, h1.small⟩, h2⟩
/-- Below lo all is as it was; and from lo on all blocks are but those of the machine. -/
structure Kq (lo : Nat) (w w' : World) : Prop where
  below : Below lo w w'
  other : ∀ k t cs, Blk w k t cs → t ≠ 21 → t ≠ 146 → t ≠ 124 → Blk w' k t cs
theorem Kq.refl (lo : Nat) (w : World) : Kq lo w w := ⟨Below.refl _ _, fun _ _ _ h _ _ _ => h⟩
theorem Kq.trans {w1 w2 : World} (h : Kq lo w w1) (h2 : Kq lo w1 w2) : Kq lo w w2 := ⟨h.below.trans h2.below, fun k t cs hb h3 h4 h5 => h2.other k t cs (h.other k t cs hb h3 h4 h5) h3 h4 h5⟩
theorem Kq.kp (h : Kp lo w w') : Kq lo w w' := ⟨h.below, fun k t cs hb h3 h4 _ => h.other k t cs hb h3 h4⟩
theorem Kq.all (h : Below w.heap.size w w') (hlo : lo ≤ w.heap.size) : Kq lo w w' := Kq.kp (Kp.all h hlo)
theorem Kq.drewN (h : Kq lo w w') (k : Nat) : Kq lo w (w'.drewN k) := ⟨below_drewN h.below k, h.other⟩
theorem Kq.mset {M : Nat} {cs : Array Value} (hM : Blk w M 124 cs) (hl : lo ≤ M) (i : Nat) (u : Value) : Kq lo w (w.setCell ⟨M, i, none⟩ u) :=
  ⟨(Below.refl _ _).setCell hl _, fun _ _ _ hb _ _ h5 => hb.other hM h5 i u⟩
theorem MachAt.steps (h : MachAt lo w M b A Z l hs Ar nr cr Ah nh ch lim s p) (s' : Int) : MachAt lo (w.setCell ⟨M, 5, none⟩ (.int .i64 s')) M b A Z l hs Ar nr cr Ah nh ch lim s' p ∧ Kq lo w (w.setCell ⟨M, 5, none⟩ (.int .i64 s')) := by
  have hb : Below lo w (w.setCell ⟨M, 5, none⟩ (.int .i64 s')) := (Below.refl _ _).setCell h.ge _
  exact ⟨⟨h.ge, h.blk.put 5 _, h.buf.mset h.blk 5 _, h.rules.keep (keeps_lo hb (fun _ h => h)) (fun _ _ => RuleC.keep (keeps_lo hb (fun _ h => h))), h.heads.keep (keeps_lo hb (fun _ h => h)) (fun _ _ => HeadC.keep (keeps_lo hb (fun _ h => h)))⟩, Kq.mset h.blk h.ge _ _⟩
theorem MachAt.puts (h : MachAt lo w M b A Z l hs Ar nr cr Ah nh ch lim s p) (p' : Int) : MachAt lo (w.setCell ⟨M, 6, none⟩ (.int .i64 p')) M b A Z l hs Ar nr cr Ah nh ch lim s p' ∧ Kq lo w (w.setCell ⟨M, 6, none⟩ (.int .i64 p')) := by
  have hb : Below lo w (w.setCell ⟨M, 6, none⟩ (.int .i64 p')) := (Below.refl _ _).setCell h.ge _
  exact ⟨⟨h.ge, h.blk.put 6 _, h.buf.mset h.blk 6 _, h.rules.keep (keeps_lo hb (fun _ h => h)) (fun _ _ => RuleC.keep (keeps_lo hb (fun _ h => h))), h.heads.keep (keeps_lo hb (fun _ h => h)) (fun _ _ => HeadC.keep (keeps_lo hb (fun _ h => h)))⟩, Kq.mset h.blk h.ge _ _⟩
/-- What the machine reads of its rule number k. -/
theorem MachAt.rule (h : MachAt lo w M b A Z l hs Ar nr cr Ah nh ch lim s p) {k : Nat} {r : RuleD} (hk : l[k]? = some r) :
    ∃ (rb ro : Nat) (A2 A4 : Option Addr) (c2 c4 : Nat), Ar = some ⟨rb, ro, none⟩ ∧ k < nr ∧ w.cell? ⟨rb, ro + k * 7 + 3, none⟩ = some (.slice A2 r.source.length c2) ∧ w.cell? ⟨rb, ro + k * 7 + 5, none⟩ = some (.slice A4 r.target.length c4) ∧
      w.cell? ⟨rb, ro + k * 7 + 6, none⟩ = some (.int .i64 r.cursor) ∧ RdX w (fun x => x < lo) 1 A4 r.target.length (runeCells r.target) := by
  obtain ⟨rb, ro, A1, A2, A3, A4, n1, c1, n2, c2, n3, c3, n4, c4, e, _, ha⟩ := rule_is h.rules hk
  have h2 := ha.s2.list.len
  have h4 := ha.s4.1
  rw [runeCells_length] at h4
  obtain rfl : r.source.length = n2 := h2
  obtain rfl : r.target.length = n4 := by omega
  have hl : l.length = nr := h.rules.len
  exact ⟨rb, ro, A2, A4, c2, c4, e, by have := (List.getElem?_eq_some_iff.1 hk).1; omega, ha.d3, ha.d5, ha.d6, ha.s4⟩
end

end Go.Proofs.Ytfmebbnccjaadaa

/- The walk of the machine's step. -/
namespace Go.Proofs.Ytfmebbnccjaadaa
open Go.RowKit

set_option maxRecDepth 100000 in
set_option maxHeartbeats 1600000 in
theorem step_limit {lo : Nat} {w : World} {M b : Nat} {A Z : List Int} {l : List RuleD} {hs : List HeadD} {Ar : Option Addr} {nr cr : Nat} {Ah : Option Addr} {nh ch : Nat} {lim s p : Nat} (h : MachAt lo w M b A Z l hs Ar nr cr Ah nh ch lim s p) (hs1 : s = lim) (hlim : lim ≤ 100000) :
    Calls Try.prog 73 #[.pointer (some ⟨M, 0, none⟩)] w fun e w' => e = .returned (.tuple #[.int .i64 0, .int .i64 9]) ∧ ∃ k, w' = w.drewN k := by
  have c3 : w.cell? ⟨M, 3, none⟩ = some (.int .i64 lim) := h.blk.cell 3
  have c5 : w.cell? ⟨M, 5, none⟩ = some (.int .i64 s) := h.blk.cell 5
  subst hs1
  clear h
  go_enter Try.func73, Try.ntmps73
  go_wp2_with fail
  go_quiet (fail)
  go_wp2_with fail
  go_ret2
  exact ⟨rfl, _, rfl⟩

set_option maxRecDepth 100000 in
set_option maxHeartbeats 3200000 in
theorem step_none_q {lo : Nat} {w : World} {M b : Nat} {A Z : List Int} {l : List RuleD} {hs : List HeadD} {Ar : Option Addr} {nr cr : Nat} {Ah : Option Addr} {nh ch : Nat} {lim s p : Nat} (h : MachAt lo w M b A Z l hs Ar nr cr Ah nh ch lim s p) (z : Int) (Z' : List Int) (hZ : Z = z :: Z') (x : Int) (hx : (A ++ Z)[A.length]? = some x) (hx0 : 0 ≤ x ∧ x ≤ 1114111) (hT : (A ++ Z).length ≤ 4000) (hnh : nh ≤ 400) (hcov : Cover l hs 1114112) (hR : ∀ r ∈ l, RightRule r) (hlen : l.length ≤ 200) (hlim : lim ≤ 100000)  (hs1 : s < lim) (hwh : whichP l (A ++ Z) A.length = -1) :
    Calls Try.prog 73 #[.pointer (some ⟨M, 0, none⟩)] w fun e w' => e = .returned (.tuple #[.int .i64 (-1), .int .i64 0]) ∧ MachAt lo w' M b (A ++ [z]) Z' l hs Ar nr cr Ah nh ch lim ((s : Int) + 1) p ∧ Kq lo w w' := by
  have HSPL := Lib.hid (show (A ++ Z).take (A.length + 1) = A ++ [z] ∧ (A ++ Z).drop (A.length + 1) = Z' by
    have e : A ++ z :: Z' = (A ++ [z]) ++ Z' := by simp
    rw [hZ, e]
    exact ⟨List.take_left' (by simp), List.drop_left' (by simp)⟩)
  have hzl : Z.length = Z'.length + 1 := by rw [hZ]; rfl
  have hAl : A.length ≤ 4000 := by rw [List.length_append] at hT; omega
  have hwr : IntKind.i64.wrap ((A.length : Int) + 1) = (A.length : Int) + 1 := by rw [IntKind.wrap_i64]; omega
  have hge := h.ge
  have c3 : w.cell? ⟨M, 3, none⟩ = some (.int .i64 lim) := h.blk.cell 3
  have c5 : w.cell? ⟨M, 5, none⟩ = some (.int .i64 s) := h.blk.cell 5
  have f5 := h.blk.frozen 5
  have hlow : lo ≤ w.heap.size := Nat.le_trans h.ge (Nat.le_of_lt h.blk.lt)
  have hd : ((s : Int) == (lim : Int)) = false := by rw [beq_eq_false_iff_ne]; omega
  have H := Lib.hid h
  have HX := Lib.hid hx
  have HRR := Lib.hid hR
  have HCV := Lib.hid hcov
  clear h hx hcov hR
  go_enter Try.func73, Try.ntmps73
  go_wp2_with fail
  go_quiet (fail)
  have d5 : (w.drewN nq).cell? ⟨M, 5, none⟩ = some (.int .i64 s) := c5
  have g5 : (w.drewN nq).frozen? ⟨M, 5, none⟩ = false := f5
  have hst := (H.out.below (below_drewN (Below.refl _ _) nq)).steps ((s : Int) + 1)
  have HST := Lib.hid hst.1
  have HBS := Lib.hid (((Kq.refl lo w).drewN nq).trans hst.2)
  have HFD := Lib.hid (mach_find HST.out x HX.out hx0 (by omega) hnh HCV.out HRR.out hlen)
  clear hst c3 c5 f5
  go_wp2_with fail
  refine HFD.out.mono ?_
  rintro e w2 ⟨rfl, hb2⟩
  rw [hwh]
  have HS2 := Lib.hid (HST.out.below hb2)
  have HB2 := Lib.hid (HBS.out.trans (Kq.all hb2 (Nat.le_trans hlow HBS.out.below.size)))
  clear hb2 d5 g5 HFD
  have e0 : w2.cell? ⟨M, 0, none⟩ = some (.pointer (some ⟨b, 0, none⟩)) := HS2.out.blk.cell 0
  have HMV := Lib.hid (show Calls Try.prog 96 #[.pointer (some ⟨b, 0, none⟩), .int .i64 ((A.length : Int) + 1)] w2.drew _ from buf_move (HS2.out.buf.below (below_drew1 (Below.refl w2.heap.size w2))) (A.length + 1) (by omega))
  go_upto_region 6 with fail
  refine wp_region_till (S := fun w' => w'.cell? ⟨M, 0, none⟩ = some (.pointer (some ⟨b, 0, none⟩))) [3, 7] (by kernel_rfl) e0 (fun hHeld => ?_)
  refine wpTill_pure (i := 0) (oi := ⟨some 30, _, _, _, _, _⟩) (v := ?_) rfl (by kernel_rfl) (by kernel_rfl) (by kernel_rfl) (fun _ _ _ h => h) (Or.inl ⟨by rfl, ?_⟩) ?_
  rotate_left 1
  · intro wq _
    go_simp
    try with_reducible rfl
  try simp only [Act.put, List.setIfInBounds_toArray, List.set_cons_zero, List.set_cons_succ]
  refine wpTill_pure (i := 1) (oi := ⟨some 31, _, _, _, _, _⟩) (v := ?_) rfl (by kernel_rfl) (by kernel_rfl) (by kernel_rfl) (fun _ _ _ h => h) (Or.inl ⟨by rfl, ?_⟩) ?_
  rotate_left 1
  · intro wq _
    go_simp
    try with_reducible rfl
  try simp only [Act.put, List.setIfInBounds_toArray, List.set_cons_zero, List.set_cons_succ]
  refine wpTill_pure (i := 2) (oi := ⟨some 32, _, _, _, _, _⟩) (v := ?_) rfl (by kernel_rfl) (by kernel_rfl) (by kernel_rfl) (fun _ _ _ h => h) (Or.inl ⟨by rfl, ?_⟩) ?_
  rotate_left 1
  · intro wq _
    go_simp
    try with_reducible rfl
  try simp only [Act.put, List.setIfInBounds_toArray, List.set_cons_zero, List.set_cons_succ]
  refine wpTill_take (i := 3) (oi := ⟨some 33, _, _, _, _, _⟩) (v := ?_) rfl (by kernel_rfl) (by kernel_rfl) (by kernel_rfl) (by kernel_rfl) (by kernel_rfl) (fun _ _ _ h => h) (Or.inl ⟨by rfl, ?_⟩) (by assumption) ?_
  rotate_left 1
  · intro wq hSw
    (try dsimp only at hSw)
    go_simp
    try with_reducible rfl
  try simp only [Act.put, List.setIfInBounds_toArray, List.set_cons_zero, List.set_cons_succ]
  refine wpTill_pure (i := 4) (oi := ⟨some 34, _, _, _, _, _⟩) (v := ?_) rfl (by kernel_rfl) (by kernel_rfl) (by kernel_rfl) (fun _ _ _ h => h) (Or.inl ⟨by rfl, ?_⟩) ?_
  rotate_left 1
  · intro wq _
    go_simp
    try with_reducible rfl
  try simp only [Act.put, List.setIfInBounds_toArray, List.set_cons_zero, List.set_cons_succ]
  refine wpTill_pure (i := 5) (oi := ⟨some 35, _, _, _, _, _⟩) (v := ?_) rfl (by kernel_rfl) (by kernel_rfl) (by kernel_rfl) (fun _ _ _ h => h) (Or.inl ⟨by rfl, ?_⟩) ?_
  rotate_left 1
  · intro wq _
    go_simp
    try with_reducible rfl
  try simp only [Act.put, List.setIfInBounds_toArray, List.set_cons_zero, List.set_cons_succ]
  refine wpTill_pure (i := 6) (oi := ⟨some 36, _, _, _, _, _⟩) (v := ?_) rfl (by kernel_rfl) (by kernel_rfl) (by kernel_rfl) (fun _ _ _ h => h) (Or.inl ⟨by rfl, ?_⟩) ?_
  rotate_left 1
  · intro wq _
    go_simp
    try with_reducible rfl
  try simp only [Act.put, List.setIfInBounds_toArray, List.set_cons_zero, List.set_cons_succ]
  refine wpTill_take (i := 7) (oi := ⟨some 37, _, _, _, _, _⟩) (v := ?_) rfl (by kernel_rfl) (by kernel_rfl) (by kernel_rfl) (by kernel_rfl) (by kernel_rfl) (fun _ _ _ h => h) (Or.inl ⟨by rfl, ?_⟩) (by assumption) ?_
  rotate_left 1
  · intro wq hSw
    (try dsimp only at hSw)
    go_simp
    try with_reducible rfl
  try simp only [Act.put, List.setIfInBounds_toArray, List.set_cons_zero, List.set_cons_succ]
  refine wpTill_one (i := 8) (o := ⟨some 38, _, _, _, _, _⟩) (by kernel_rfl) rfl (fun K hK => ?_)
  go_simp
  go_at_call 71
  refine (buf_at (HS2.out.buf.below (below_drew1 (Below.refl w2.heap.size w2)))).mono ?_
  rintro e w3 ⟨rfl, rfl⟩
  try dsimp only
  refine hK.out _ _ ?_ (fun hHeld => ?_)
  · exact e0
  clear hK K
  try simp only [Act.put, List.setIfInBounds_toArray, List.set_cons_zero, List.set_cons_succ]
  refine wpTill_pure (i := 9) (oi := ⟨some 39, _, _, _, _, _⟩) (v := ?_) rfl (by kernel_rfl) (by kernel_rfl) (by kernel_rfl) (fun _ _ _ h => h) (Or.inl ⟨by rfl, ?_⟩) ?_
  rotate_left 1
  · intro wq _
    go_simp
    try with_reducible rfl
  try simp only [Act.put, List.setIfInBounds_toArray, List.set_cons_zero, List.set_cons_succ]
  refine wpTill_late (i := 10) (by kernel_rfl) rfl (by kernel_rfl) (fun K hK => ?_)
  go_simp
  go_at_call 96
  refine HMV.out.mono ?_
  rintro e w3 ⟨rfl, hbuf, hkp⟩
  have HBF := Lib.hid hbuf
  have HKP := Lib.hid (((Kp.refl lo w2).drew).trans hkp)
  clear hbuf hkp HMV
  try dsimp only
  refine hK.out _ _ ?_
  clear hK K
  try simp only [Act.put, List.setIfInBounds_toArray, List.set_cons_zero, List.set_cons_succ]
  refine wpTill_done (by kernel_rfl) ?_ _
  go_simp
  go_wp2_with fail
  go_ret2
  refine ⟨rfl, ?_, HB2.out.trans (Kq.kp HKP.out)⟩
  have hm := HS2.out.kp HKP.out HBF.out
  rwa [HSPL.out.1, HSPL.out.2] at hm

set_option maxRecDepth 100000 in
set_option maxHeartbeats 3200000 in
theorem step_much {lo : Nat} {w : World} {M b : Nat} {A Z : List Int} {l : List RuleD} {hs : List HeadD} {Ar : Option Addr} {nr cr : Nat} {Ah : Option Addr} {nh ch : Nat} {lim s p : Nat} (h : MachAt lo w M b A Z l hs Ar nr cr Ah nh ch lim s p) (k : Nat) (r : RuleD) (hk : l[k]? = some r) (x : Int) (hx : (A ++ Z)[A.length]? = some x) (hx0 : 0 ≤ x ∧ x ≤ 1114111) (hT : (A ++ Z).length ≤ 4000) (hnh : nh ≤ 400) (hcov : Cover l hs 1114112) (hR : ∀ r ∈ l, RightRule r) (hlen : l.length ≤ 200) (hlim : lim ≤ 100000)  (hpb : p ≤ 100000) (hs1 : s < lim) (hwh : whichP l (A ++ Z) A.length = (k : Int)) (hfit : r.source.length ≤ Z.length) (hmuch : 4000 + r.source.length < A.length + Z.length + r.target.length) :
    Calls Try.prog 73 #[.pointer (some ⟨M, 0, none⟩)] w fun e w' => e = .returned (.tuple #[.int .i64 0, .int .i64 4]) ∧ Below lo w w' := by
  have HK := Lib.hid hk
  have hrr := hR r (List.mem_of_getElem? hk)
  have hs20 := (hrr.sets r.source (by simp [sidesOf])).1
  have ht20 := hrr.tgt.1
  have hcur := hrr.cur
  have hTl : (A ++ Z).length = A.length + Z.length := List.length_append
  clear hk hrr
  have hgt : decide ((4000 : Int) < ((A.length + Z.length : Nat) : Int) - (r.source.length : Int) + (r.target.length : Int)) = true := decide_eq_true (by omega)
  have hge := h.ge
  have c3 : w.cell? ⟨M, 3, none⟩ = some (.int .i64 lim) := h.blk.cell 3
  have c5 : w.cell? ⟨M, 5, none⟩ = some (.int .i64 s) := h.blk.cell 5
  have f5 := h.blk.frozen 5
  have hlow : lo ≤ w.heap.size := Nat.le_trans h.ge (Nat.le_of_lt h.blk.lt)
  have hd : ((s : Int) == (lim : Int)) = false := by rw [beq_eq_false_iff_ne]; omega
  have H := Lib.hid h
  have HX := Lib.hid hx
  have HRR := Lib.hid hR
  have HCV := Lib.hid hcov
  clear h hx hcov hR
  go_enter Try.func73, Try.ntmps73
  go_wp2_with fail
  go_quiet (fail)
  have d5 : (w.drewN nq).cell? ⟨M, 5, none⟩ = some (.int .i64 s) := c5
  have g5 : (w.drewN nq).frozen? ⟨M, 5, none⟩ = false := f5
  have hst := (H.out.below (below_drewN (Below.refl _ _) nq)).steps ((s : Int) + 1)
  have HST := Lib.hid hst.1
  have HBS := Lib.hid (((Kq.refl lo w).drewN nq).trans hst.2)
  have HFD := Lib.hid (mach_find HST.out x HX.out hx0 (by omega) hnh HCV.out HRR.out hlen)
  clear hst c3 c5 f5
  go_wp2_with fail
  refine HFD.out.mono ?_
  rintro e w2 ⟨rfl, hb2⟩
  rw [hwh]
  have HS2 := Lib.hid (HST.out.below hb2)
  have HB2 := Lib.hid (HBS.out.trans (Kq.all hb2 (Nat.le_trans hlow HBS.out.below.size)))
  clear hb2 d5 g5 HFD
  have HS2' := HS2.out
  have u6 : w2.cell? ⟨M, 6, none⟩ = some (.int .i64 p) := HS2'.blk.cell 6
  have v6 := HS2'.blk.frozen 6
  obtain ⟨rb, ro, A2, A4, c2, c4, rfl, hknr, _⟩ := HS2'.rule HK.out
  have u1 : w2.cell? ⟨M, 1, none⟩ = some (.slice (some ⟨rb, ro, none⟩) nr cr) := HS2'.blk.cell 1
  have hpt := HS2'.puts ((p : Int) + 1)
  have HP3 := Lib.hid hpt.1
  have HB3 := Lib.hid (HB2.out.trans hpt.2)
  clear hpt HS2'
  have hkneg : decide ((k : Int) < 0) = false := decide_eq_false (by omega)
  generalize hW3 : w2.setCell ⟨M, 6, none⟩ (.int .i64 ((p : Int) + 1)) = W3 at HP3 HB3
  have HW3 := Lib.hid hW3
  have t0 : W3.cell? ⟨M, 0, none⟩ = some (.pointer (some ⟨b, 0, none⟩)) := HP3.out.blk.cell 0
  have t1 : W3.cell? ⟨M, 1, none⟩ = some (.slice (some ⟨rb, ro, none⟩) nr cr) := HP3.out.blk.cell 1
  obtain ⟨rb', ro', A2, A4, c2, c4, e9, _, t3, t5, _, _⟩ := HP3.out.rule HK.out
  cases e9
  have HLEN := Lib.hid (fun (q : Nat) => buf_len (HP3.out.buf.below (below_drewN (Below.refl W3.heap.size W3) q)))
  have HAT := Lib.hid (fun (q : Nat) => buf_at (HP3.out.buf.below (below_drewN (Below.refl W3.heap.size W3) q)))
  clear hW3
  go_upto_region 10 with fail
  rw [HW3.out]
  clear u1 u6 v6
  go_quiet (first | (go_at_call 72; exact Calls.quiet_of (HLEN.out _)))
  go_wp2_with fail
  go_ret2
  exact ⟨rfl, below_drewN HB3.out.below nq⟩


end Go.Proofs.Ytfmebbnccjaadaa

/- The walk of the machine's step where a rule matches. -/
namespace Go.Proofs.Ytfmebbnccjaadaa
open Go.RowKit

set_option maxRecDepth 100000 in
set_option maxHeartbeats 6400000 in
theorem step_rule_q {lo : Nat} {w : World} {M b : Nat} {A Z : List Int} {l : List RuleD} {hs : List HeadD} {Ar : Option Addr} {nr cr : Nat} {Ah : Option Addr} {nh ch : Nat} {lim s p : Nat} (h : MachAt lo w M b A Z l hs Ar nr cr Ah nh ch lim s p) (k : Nat) (r : RuleD) (hk : l[k]? = some r) (x : Int) (hx : (A ++ Z)[A.length]? = some x) (hx0 : 0 ≤ x ∧ x ≤ 1114111) (hT : (A ++ Z).length ≤ 4000) (hnh : nh ≤ 400) (hcov : Cover l hs 1114112) (hR : ∀ r ∈ l, RightRule r) (hlen : l.length ≤ 200) (hlim : lim ≤ 100000)  (hpb : p ≤ 100000) (hs1 : s < lim) (hwh : whichP l (A ++ Z) A.length = (k : Int)) (hfit : r.source.length ≤ Z.length) (hmuch : A.length + Z.length + r.target.length ≤ 4000 + r.source.length) :
    Calls Try.prog 73 #[.pointer (some ⟨M, 0, none⟩)] w fun e w' => e = .returned (.tuple #[.int .i64 k, .int .i64 0]) ∧
      MachAt lo w' M b ((A ++ r.target ++ Z.drop r.source.length).take (A.length + r.cursor.toNat)) ((A ++ r.target ++ Z.drop r.source.length).drop (A.length + r.cursor.toNat)) l hs Ar nr cr Ah nh ch lim ((s : Int) + 1) ((p : Int) + 1) ∧ Kq lo w w' := by
  have HK := Lib.hid hk
  have hrr := hR r (List.mem_of_getElem? hk)
  have hs20 := (hrr.sets r.source (by simp [sidesOf])).1
  have ht20 := hrr.tgt.1
  have hcur := hrr.cur
  have hTl : (A ++ Z).length = A.length + Z.length := List.length_append
  clear hk hrr
  have hgt : decide ((4000 : Int) < ((A.length + Z.length : Nat) : Int) - (r.source.length : Int) + (r.target.length : Int)) = false := decide_eq_false (by omega)
  have hwr : IntKind.i64.wrap ((A.length : Int) + r.cursor) = (A.length : Int) + r.cursor := by rw [IntKind.wrap_i64]; omega
  have hge := h.ge
  have c3 : w.cell? ⟨M, 3, none⟩ = some (.int .i64 lim) := h.blk.cell 3
  have c5 : w.cell? ⟨M, 5, none⟩ = some (.int .i64 s) := h.blk.cell 5
  have f5 := h.blk.frozen 5
  have hlow : lo ≤ w.heap.size := Nat.le_trans h.ge (Nat.le_of_lt h.blk.lt)
  have hd : ((s : Int) == (lim : Int)) = false := by rw [beq_eq_false_iff_ne]; omega
  have H := Lib.hid h
  have HX := Lib.hid hx
  have HRR := Lib.hid hR
  have HCV := Lib.hid hcov
  clear h hx hcov hR
  go_enter Try.func73, Try.ntmps73
  go_wp2_with fail
  go_quiet (fail)
  have d5 : (w.drewN nq).cell? ⟨M, 5, none⟩ = some (.int .i64 s) := c5
  have g5 : (w.drewN nq).frozen? ⟨M, 5, none⟩ = false := f5
  have hst := (H.out.below (below_drewN (Below.refl _ _) nq)).steps ((s : Int) + 1)
  have HST := Lib.hid hst.1
  have HBS := Lib.hid (((Kq.refl lo w).drewN nq).trans hst.2)
  have HFD := Lib.hid (mach_find HST.out x HX.out hx0 (by omega) hnh HCV.out HRR.out hlen)
  clear hst c3 c5 f5
  go_wp2_with fail
  refine HFD.out.mono ?_
  rintro e w2 ⟨rfl, hb2⟩
  rw [hwh]
  have HS2 := Lib.hid (HST.out.below hb2)
  have HB2 := Lib.hid (HBS.out.trans (Kq.all hb2 (Nat.le_trans hlow HBS.out.below.size)))
  clear hb2 d5 g5 HFD
  have HS2' := HS2.out
  have u6 : w2.cell? ⟨M, 6, none⟩ = some (.int .i64 p) := HS2'.blk.cell 6
  have v6 := HS2'.blk.frozen 6
  obtain ⟨rb, ro, A2, A4, c2, c4, rfl, hknr, _⟩ := HS2'.rule HK.out
  have u1 : w2.cell? ⟨M, 1, none⟩ = some (.slice (some ⟨rb, ro, none⟩) nr cr) := HS2'.blk.cell 1
  have hpt := HS2'.puts ((p : Int) + 1)
  have HP3 := Lib.hid hpt.1
  have HB3 := Lib.hid (HB2.out.trans hpt.2)
  clear hpt HS2'
  have hkneg : decide ((k : Int) < 0) = false := decide_eq_false (by omega)
  generalize hW3 : w2.setCell ⟨M, 6, none⟩ (.int .i64 ((p : Int) + 1)) = W3 at HP3 HB3
  have HW3 := Lib.hid hW3
  have t0 : W3.cell? ⟨M, 0, none⟩ = some (.pointer (some ⟨b, 0, none⟩)) := HP3.out.blk.cell 0
  have t1 : W3.cell? ⟨M, 1, none⟩ = some (.slice (some ⟨rb, ro, none⟩) nr cr) := HP3.out.blk.cell 1
  obtain ⟨rb', ro', A2, A4, c2, c4, e9, _, t3, t5, _, _⟩ := HP3.out.rule HK.out
  cases e9
  have HLEN := Lib.hid (fun (q : Nat) => buf_len (HP3.out.buf.below (below_drewN (Below.refl W3.heap.size W3) q)))
  have HAT := Lib.hid (fun (q : Nat) => buf_at (HP3.out.buf.below (below_drewN (Below.refl W3.heap.size W3) q)))
  clear hW3
  go_upto_region 10 with fail
  rw [HW3.out]
  clear u1 u6 v6
  go_quiet (first | (go_at_call 72; exact Calls.quiet_of (HLEN.out _)))
  go_wp2_with fail
  refine (HAT.out nq).mono ?_
  rintro e w4 ⟨rfl, rfl⟩
  have HM4 := Lib.hid (HP3.out.below (below_drewN (Below.refl W3.heap.size W3) nq))
  have HB4 := Lib.hid (HB3.out.drewN nq)
  have x0 : (W3.drewN nq).cell? ⟨M, 0, none⟩ = some (.pointer (some ⟨b, 0, none⟩)) := t0
  have x3 : (W3.drewN nq).cell? ⟨rb, ro + k * 7 + 3, none⟩ = some (.slice A2 r.source.length c2) := t3
  generalize hW4 : W3.drewN nq = W4 at *
  have HDEL := Lib.hid (buf_del (HM4.out.buf.below (below_drew1 (Below.refl W4.heap.size W4))) r.source.length hfit)
  clear hW4 t0 t1 t3 t5 HAT HLEN hgt
  go_upto_region 13 with fail
  refine wp_region_till (S := fun w' => w'.cell? ⟨M, 0, none⟩ = some (.pointer (some ⟨b, 0, none⟩)) ∧ w'.cell? ⟨rb, ro + k * 7 + 3, none⟩ = some (.slice A2 r.source.length c2)) [3, 7] (by kernel_rfl) ⟨x0, x3⟩ (fun hHeld => ?_)
  refine wpTill_pure (i := 0) (oi := ⟨some 80, _, _, _, _, _⟩) (v := ?_) rfl (by kernel_rfl) (by kernel_rfl) (by kernel_rfl) (fun _ _ _ h => h) (Or.inl ⟨by rfl, ?_⟩) ?_
  rotate_left 1
  · intro wq _
    go_simp
    try with_reducible rfl
  try simp only [Act.put, List.setIfInBounds_toArray, List.set_cons_zero, List.set_cons_succ]
  refine wpTill_pure (i := 1) (oi := ⟨some 81, _, _, _, _, _⟩) (v := ?_) rfl (by kernel_rfl) (by kernel_rfl) (by kernel_rfl) (fun _ _ _ h => h) (Or.inl ⟨by rfl, ?_⟩) ?_
  rotate_left 1
  · intro wq _
    go_simp
    try with_reducible rfl
  try simp only [Act.put, List.setIfInBounds_toArray, List.set_cons_zero, List.set_cons_succ]
  refine wpTill_pure (i := 2) (oi := ⟨some 82, _, _, _, _, _⟩) (v := ?_) rfl (by kernel_rfl) (by kernel_rfl) (by kernel_rfl) (fun _ _ _ h => h) (Or.inl ⟨by rfl, ?_⟩) ?_
  rotate_left 1
  · intro wq _
    go_simp
    try with_reducible rfl
  try simp only [Act.put, List.setIfInBounds_toArray, List.set_cons_zero, List.set_cons_succ]
  refine wpTill_take (i := 3) (oi := ⟨some 83, _, _, _, _, _⟩) (v := ?_) rfl (by kernel_rfl) (by kernel_rfl) (by kernel_rfl) (by kernel_rfl) (by kernel_rfl) (fun _ _ _ h => h) (Or.inl ⟨by rfl, ?_⟩) (by assumption) ?_
  rotate_left 1
  · intro wq hSw
    (try dsimp only at hSw)
    go_simp
    try with_reducible rfl
  try simp only [Act.put, List.setIfInBounds_toArray, List.set_cons_zero, List.set_cons_succ]
  refine wpTill_pure (i := 4) (oi := ⟨some 84, _, _, _, _, _⟩) (v := ?_) rfl (by kernel_rfl) (by kernel_rfl) (by kernel_rfl) (fun _ _ _ h => h) (Or.inl ⟨by rfl, ?_⟩) ?_
  rotate_left 1
  · intro wq _
    go_simp
    try with_reducible rfl
  try simp only [Act.put, List.setIfInBounds_toArray, List.set_cons_zero, List.set_cons_succ]
  refine wpTill_pure (i := 5) (oi := ⟨some 85, _, _, _, _, _⟩) (v := ?_) rfl (by kernel_rfl) (by kernel_rfl) (by kernel_rfl) (fun _ _ _ h => h) (Or.inl ⟨by rfl, ?_⟩) ?_
  rotate_left 1
  · intro wq _
    go_simp
    try with_reducible rfl
  try simp only [Act.put, List.setIfInBounds_toArray, List.set_cons_zero, List.set_cons_succ]
  refine wpTill_pure (i := 6) (oi := ⟨some 86, _, _, _, _, _⟩) (v := ?_) rfl (by kernel_rfl) (by kernel_rfl) (by kernel_rfl) (fun _ _ _ h => h) (Or.inl ⟨by rfl, ?_⟩) ?_
  rotate_left 1
  · intro wq _
    go_simp
    try with_reducible rfl
  try simp only [Act.put, List.setIfInBounds_toArray, List.set_cons_zero, List.set_cons_succ]
  refine wpTill_take (i := 7) (oi := ⟨some 87, _, _, _, _, _⟩) (v := ?_) rfl (by kernel_rfl) (by kernel_rfl) (by kernel_rfl) (by kernel_rfl) (by kernel_rfl) (fun _ _ _ h => h) (Or.inl ⟨by rfl, ?_⟩) (by assumption) ?_
  rotate_left 1
  · intro wq hSw
    (try dsimp only at hSw)
    go_simp
    try with_reducible rfl
  try simp only [Act.put, List.setIfInBounds_toArray, List.set_cons_zero, List.set_cons_succ]
  refine wpTill_pure (i := 8) (oi := ⟨some 88, _, _, _, _, _⟩) (v := ?_) rfl (by kernel_rfl) (by kernel_rfl) (by kernel_rfl) (fun _ _ _ h => h) (Or.inl ⟨by rfl, ?_⟩) ?_
  rotate_left 1
  · intro wq _
    go_simp
    try with_reducible rfl
  try simp only [Act.put, List.setIfInBounds_toArray, List.set_cons_zero, List.set_cons_succ]
  refine wpTill_late (i := 9) (by kernel_rfl) rfl (by kernel_rfl) (fun K hK => ?_)
  go_simp
  go_at_call 97
  refine HDEL.out.mono ?_
  rintro e w5 ⟨rfl, hbuf, hkp⟩
  have HM5 := Lib.hid (HM4.out.kp ((Kp.refl lo W4).drew.trans hkp) hbuf)
  have HB5 := Lib.hid (HB4.out.trans (Kq.kp ((Kp.refl lo W4).drew.trans hkp)))
  clear hbuf hkp HDEL
  try dsimp only
  refine hK.out _ _ ?_
  clear hK K
  try simp only [Act.put, List.setIfInBounds_toArray, List.set_cons_zero, List.set_cons_succ]
  refine wpTill_done (by kernel_rfl) ?_ _
  go_simp
  obtain ⟨rb', ro', B2, B4, d2, d4, e9, _, _, x5, _, hx4⟩ := HM5.out.rule HK.out
  cases e9
  have x0 : w5.cell? ⟨M, 0, none⟩ = some (.pointer (some ⟨b, 0, none⟩)) := HM5.out.blk.cell 0
  have HPUT := Lib.hid (buf_put (c2 := d4) (HM5.out.buf.below (below_drew1 (Below.refl w5.heap.size w5))) r.target B4 r.target.length (hx4.keep (Keeps.any (below_drew1 (Below.refl _ _)))) ht20 (by rw [List.length_drop]; omega))
  clear hx4 x3
  go_upto_region 14 with fail
  refine wp_region_till (S := fun w' => w'.cell? ⟨M, 0, none⟩ = some (.pointer (some ⟨b, 0, none⟩)) ∧ w'.cell? ⟨rb, ro + k * 7 + 5, none⟩ = some (.slice B4 r.target.length d4)) [3, 7] (by kernel_rfl) ⟨x0, x5⟩ (fun hHeld => ?_)
  refine wpTill_pure (i := 0) (oi := ⟨some 90, _, _, _, _, _⟩) (v := ?_) rfl (by kernel_rfl) (by kernel_rfl) (by kernel_rfl) (fun _ _ _ h => h) (Or.inl ⟨by rfl, ?_⟩) ?_
  rotate_left 1
  · intro wq _
    go_simp
    try with_reducible rfl
  try simp only [Act.put, List.setIfInBounds_toArray, List.set_cons_zero, List.set_cons_succ]
  refine wpTill_pure (i := 1) (oi := ⟨some 91, _, _, _, _, _⟩) (v := ?_) rfl (by kernel_rfl) (by kernel_rfl) (by kernel_rfl) (fun _ _ _ h => h) (Or.inl ⟨by rfl, ?_⟩) ?_
  rotate_left 1
  · intro wq _
    go_simp
    try with_reducible rfl
  try simp only [Act.put, List.setIfInBounds_toArray, List.set_cons_zero, List.set_cons_succ]
  refine wpTill_pure (i := 2) (oi := ⟨some 92, _, _, _, _, _⟩) (v := ?_) rfl (by kernel_rfl) (by kernel_rfl) (by kernel_rfl) (fun _ _ _ h => h) (Or.inl ⟨by rfl, ?_⟩) ?_
  rotate_left 1
  · intro wq _
    go_simp
    try with_reducible rfl
  try simp only [Act.put, List.setIfInBounds_toArray, List.set_cons_zero, List.set_cons_succ]
  refine wpTill_take (i := 3) (oi := ⟨some 93, _, _, _, _, _⟩) (v := ?_) rfl (by kernel_rfl) (by kernel_rfl) (by kernel_rfl) (by kernel_rfl) (by kernel_rfl) (fun _ _ _ h => h) (Or.inl ⟨by rfl, ?_⟩) (by assumption) ?_
  rotate_left 1
  · intro wq hSw
    (try dsimp only at hSw)
    go_simp
    try with_reducible rfl
  try simp only [Act.put, List.setIfInBounds_toArray, List.set_cons_zero, List.set_cons_succ]
  refine wpTill_pure (i := 4) (oi := ⟨some 94, _, _, _, _, _⟩) (v := ?_) rfl (by kernel_rfl) (by kernel_rfl) (by kernel_rfl) (fun _ _ _ h => h) (Or.inl ⟨by rfl, ?_⟩) ?_
  rotate_left 1
  · intro wq _
    go_simp
    try with_reducible rfl
  try simp only [Act.put, List.setIfInBounds_toArray, List.set_cons_zero, List.set_cons_succ]
  refine wpTill_pure (i := 5) (oi := ⟨some 95, _, _, _, _, _⟩) (v := ?_) rfl (by kernel_rfl) (by kernel_rfl) (by kernel_rfl) (fun _ _ _ h => h) (Or.inl ⟨by rfl, ?_⟩) ?_
  rotate_left 1
  · intro wq _
    go_simp
    try with_reducible rfl
  try simp only [Act.put, List.setIfInBounds_toArray, List.set_cons_zero, List.set_cons_succ]
  refine wpTill_pure (i := 6) (oi := ⟨some 96, _, _, _, _, _⟩) (v := ?_) rfl (by kernel_rfl) (by kernel_rfl) (by kernel_rfl) (fun _ _ _ h => h) (Or.inl ⟨by rfl, ?_⟩) ?_
  rotate_left 1
  · intro wq _
    go_simp
    try with_reducible rfl
  try simp only [Act.put, List.setIfInBounds_toArray, List.set_cons_zero, List.set_cons_succ]
  refine wpTill_take (i := 7) (oi := ⟨some 97, _, _, _, _, _⟩) (v := ?_) rfl (by kernel_rfl) (by kernel_rfl) (by kernel_rfl) (by kernel_rfl) (by kernel_rfl) (fun _ _ _ h => h) (Or.inl ⟨by rfl, ?_⟩) (by assumption) ?_
  rotate_left 1
  · intro wq hSw
    (try dsimp only at hSw)
    go_simp
    try with_reducible rfl
  try simp only [Act.put, List.setIfInBounds_toArray, List.set_cons_zero, List.set_cons_succ]
  refine wpTill_late (i := 8) (by kernel_rfl) rfl (by kernel_rfl) (fun K hK => ?_)
  go_simp
  go_at_call 98
  refine HPUT.out.mono ?_
  rintro e w6 ⟨rfl, hbuf, hkp⟩
  have HM6 := Lib.hid (HM5.out.kp ((Kp.refl lo w5).drew.trans hkp) hbuf)
  have HB6 := Lib.hid (HB5.out.trans (Kq.kp ((Kp.refl lo w5).drew.trans hkp)))
  clear hbuf hkp HPUT
  try dsimp only
  refine hK.out _ _ ?_
  clear hK K
  try simp only [Act.put, List.setIfInBounds_toArray, List.set_cons_zero, List.set_cons_succ]
  refine wpTill_done (by kernel_rfl) ?_ _
  go_simp
  obtain ⟨rb', ro', C2, C4, g2, g4, e9, _, _, _, x6, _⟩ := HM6.out.rule HK.out
  cases e9
  have x0 : w6.cell? ⟨M, 0, none⟩ = some (.pointer (some ⟨b, 0, none⟩)) := HM6.out.blk.cell 0
  obtain ⟨cu, hcu⟩ : ∃ cu : Nat, r.cursor = (cu : Int) := ⟨r.cursor.toNat, by omega⟩
  have HMV := Lib.hid (show Calls Try.prog 96 #[.pointer (some ⟨b, 0, none⟩), .int .i64 ((A.length : Int) + r.cursor)] w6.drew _ by
    have := buf_move (HM6.out.buf.below (below_drew1 (Below.refl w6.heap.size w6))) (A.length + r.cursor.toNat) (by rw [List.length_append, List.length_drop]; omega)
    rwa [show ((A.length + r.cursor.toNat : Nat) : Int) = (A.length : Int) + r.cursor by omega] at this)
  clear x5 hcu
  go_upto_region 15 with fail
  refine wp_region_till (S := fun w' => w'.cell? ⟨M, 0, none⟩ = some (.pointer (some ⟨b, 0, none⟩)) ∧ w'.cell? ⟨rb, ro + k * 7 + 6, none⟩ = some (.int .i64 r.cursor)) [3, 8] (by kernel_rfl) ⟨x0, x6⟩ (fun hHeld => ?_)
  refine wpTill_pure (i := 0) (oi := ⟨some 99, _, _, _, _, _⟩) (v := ?_) rfl (by kernel_rfl) (by kernel_rfl) (by kernel_rfl) (fun _ _ _ h => h) (Or.inl ⟨by rfl, ?_⟩) ?_
  rotate_left 1
  · intro wq _
    go_simp
    try with_reducible rfl
  try simp only [Act.put, List.setIfInBounds_toArray, List.set_cons_zero, List.set_cons_succ]
  refine wpTill_pure (i := 1) (oi := ⟨some 100, _, _, _, _, _⟩) (v := ?_) rfl (by kernel_rfl) (by kernel_rfl) (by kernel_rfl) (fun _ _ _ h => h) (Or.inl ⟨by rfl, ?_⟩) ?_
  rotate_left 1
  · intro wq _
    go_simp
    try with_reducible rfl
  try simp only [Act.put, List.setIfInBounds_toArray, List.set_cons_zero, List.set_cons_succ]
  refine wpTill_pure (i := 2) (oi := ⟨some 101, _, _, _, _, _⟩) (v := ?_) rfl (by kernel_rfl) (by kernel_rfl) (by kernel_rfl) (fun _ _ _ h => h) (Or.inl ⟨by rfl, ?_⟩) ?_
  rotate_left 1
  · intro wq _
    go_simp
    try with_reducible rfl
  try simp only [Act.put, List.setIfInBounds_toArray, List.set_cons_zero, List.set_cons_succ]
  refine wpTill_take (i := 3) (oi := ⟨some 102, _, _, _, _, _⟩) (v := ?_) rfl (by kernel_rfl) (by kernel_rfl) (by kernel_rfl) (by kernel_rfl) (by kernel_rfl) (fun _ _ _ h => h) (Or.inl ⟨by rfl, ?_⟩) (by assumption) ?_
  rotate_left 1
  · intro wq hSw
    (try dsimp only at hSw)
    go_simp
    try with_reducible rfl
  try simp only [Act.put, List.setIfInBounds_toArray, List.set_cons_zero, List.set_cons_succ]
  refine wpTill_pure (i := 4) (oi := ⟨some 103, _, _, _, _, _⟩) (v := ?_) rfl (by kernel_rfl) (by kernel_rfl) (by kernel_rfl) (fun _ _ _ h => h) (Or.inl ⟨by rfl, ?_⟩) ?_
  rotate_left 1
  · intro wq _
    go_simp
    try with_reducible rfl
  try simp only [Act.put, List.setIfInBounds_toArray, List.set_cons_zero, List.set_cons_succ]
  refine wpTill_pure (i := 5) (oi := ⟨some 104, _, _, _, _, _⟩) (v := ?_) rfl (by kernel_rfl) (by kernel_rfl) (by kernel_rfl) (fun _ _ _ h => h) (Or.inl ⟨by rfl, ?_⟩) ?_
  rotate_left 1
  · intro wq _
    go_simp
    try with_reducible rfl
  try simp only [Act.put, List.setIfInBounds_toArray, List.set_cons_zero, List.set_cons_succ]
  refine wpTill_pure (i := 6) (oi := ⟨some 105, _, _, _, _, _⟩) (v := ?_) rfl (by kernel_rfl) (by kernel_rfl) (by kernel_rfl) (fun _ _ _ h => h) (Or.inl ⟨by rfl, ?_⟩) ?_
  rotate_left 1
  · intro wq _
    go_simp
    try with_reducible rfl
  try simp only [Act.put, List.setIfInBounds_toArray, List.set_cons_zero, List.set_cons_succ]
  refine wpTill_pure (i := 7) (oi := ⟨some 106, _, _, _, _, _⟩) (v := ?_) rfl (by kernel_rfl) (by kernel_rfl) (by kernel_rfl) (fun _ _ _ h => h) (Or.inl ⟨by rfl, ?_⟩) ?_
  rotate_left 1
  · intro wq _
    go_simp
    try with_reducible rfl
  try simp only [Act.put, List.setIfInBounds_toArray, List.set_cons_zero, List.set_cons_succ]
  refine wpTill_take (i := 8) (oi := ⟨some 107, _, _, _, _, _⟩) (v := ?_) rfl (by kernel_rfl) (by kernel_rfl) (by kernel_rfl) (by kernel_rfl) (by kernel_rfl) (fun _ _ _ h => h) (Or.inl ⟨by rfl, ?_⟩) (by assumption) ?_
  rotate_left 1
  · intro wq hSw
    (try dsimp only at hSw)
    go_simp
    try with_reducible rfl
  try simp only [Act.put, List.setIfInBounds_toArray, List.set_cons_zero, List.set_cons_succ]
  refine wpTill_pure (i := 9) (oi := ⟨some 108, _, _, _, _, _⟩) (v := ?_) rfl (by kernel_rfl) (by kernel_rfl) (by kernel_rfl) (fun _ _ _ h => h) (Or.inl ⟨by rfl, ?_⟩) ?_
  rotate_left 1
  · intro wq _
    go_simp
    try with_reducible rfl
  try simp only [Act.put, List.setIfInBounds_toArray, List.set_cons_zero, List.set_cons_succ]
  refine wpTill_late (i := 10) (by kernel_rfl) rfl (by kernel_rfl) (fun K hK => ?_)
  go_simp
  go_at_call 96
  refine HMV.out.mono ?_
  rintro e w7 ⟨rfl, hbuf, hkp⟩
  have HM7 := Lib.hid (HM6.out.kp ((Kp.refl lo w6).drew.trans hkp) hbuf)
  have HB7 := Lib.hid (HB6.out.trans (Kq.kp ((Kp.refl lo w6).drew.trans hkp)))
  clear hbuf hkp HMV
  try dsimp only
  refine hK.out _ _ ?_
  clear hK K
  try simp only [Act.put, List.setIfInBounds_toArray, List.set_cons_zero, List.set_cons_succ]
  refine wpTill_done (by kernel_rfl) ?_ _
  go_simp
  go_wp2_with fail
  go_ret2
  exact ⟨rfl, HM7.out, HB7.out⟩


theorem step_none {lo : Nat} {w : World} {M b : Nat} {A Z : List Int} {l : List RuleD} {hs : List HeadD} {Ar : Option Addr} {nr cr : Nat} {Ah : Option Addr} {nh ch : Nat} {lim s p : Nat} (h : MachAt lo w M b A Z l hs Ar nr cr Ah nh ch lim s p) (z : Int) (Z' : List Int) (hZ : Z = z :: Z') (x : Int) (hx : (A ++ Z)[A.length]? = some x) (hx0 : 0 ≤ x ∧ x ≤ 1114111) (hT : (A ++ Z).length ≤ 4000) (hnh : nh ≤ 400) (hcov : Cover l hs 1114112) (hR : ∀ r ∈ l, RightRule r) (hlen : l.length ≤ 200) (hlim : lim ≤ 100000)  (hs1 : s < lim) (hwh : whichP l (A ++ Z) A.length = -1) :
    Calls Try.prog 73 #[.pointer (some ⟨M, 0, none⟩)] w fun e w' => e = .returned (.tuple #[.int .i64 (-1), .int .i64 0]) ∧ MachAt lo w' M b (A ++ [z]) Z' l hs Ar nr cr Ah nh ch lim ((s : Int) + 1) p ∧ Below lo w w' := 
  (step_none_q h z Z' hZ x hx hx0 hT hnh hcov hR hlen hlim hs1 hwh).mono fun _ _ ⟨e, h1, h2⟩ => ⟨e, h1, h2.below⟩
theorem step_rule {lo : Nat} {w : World} {M b : Nat} {A Z : List Int} {l : List RuleD} {hs : List HeadD} {Ar : Option Addr} {nr cr : Nat} {Ah : Option Addr} {nh ch : Nat} {lim s p : Nat} (h : MachAt lo w M b A Z l hs Ar nr cr Ah nh ch lim s p) (k : Nat) (r : RuleD) (hk : l[k]? = some r) (x : Int) (hx : (A ++ Z)[A.length]? = some x) (hx0 : 0 ≤ x ∧ x ≤ 1114111) (hT : (A ++ Z).length ≤ 4000) (hnh : nh ≤ 400) (hcov : Cover l hs 1114112) (hR : ∀ r ∈ l, RightRule r) (hlen : l.length ≤ 200) (hlim : lim ≤ 100000)  (hpb : p ≤ 100000) (hs1 : s < lim) (hwh : whichP l (A ++ Z) A.length = (k : Int)) (hfit : r.source.length ≤ Z.length) (hmuch : A.length + Z.length + r.target.length ≤ 4000 + r.source.length) :
    Calls Try.prog 73 #[.pointer (some ⟨M, 0, none⟩)] w fun e w' => e = .returned (.tuple #[.int .i64 k, .int .i64 0]) ∧
      MachAt lo w' M b ((A ++ r.target ++ Z.drop r.source.length).take (A.length + r.cursor.toNat)) ((A ++ r.target ++ Z.drop r.source.length).drop (A.length + r.cursor.toNat)) l hs Ar nr cr Ah nh ch lim ((s : Int) + 1) ((p : Int) + 1) ∧ Below lo w w' := 
  (step_rule_q h k r hk x hx hx0 hT hnh hcov hR hlen hlim hpb hs1 hwh hfit hmuch).mono fun _ _ ⟨e, h1, h2⟩ => ⟨e, h1, h2.below⟩

end Go.Proofs.Ytfmebbnccjaadaa
