/- The walk of scriptref2.Edges: it tells edgeP's own fold. -/
import Derived.Test.YthnhbcohfoodlaaGreatDoorSetP
import Derived.Test.YthnhbcohfoodlaaGreatDoorRuleFoot
import Derived.Deep.DeepCutAuto
import Derived.Deep.CutBlock
import Derived.Test.YthnhbcohfoodlaaGreatDoorHeldTill
namespace Go.Proofs.YthnhbcohfoodlaaGreatDoor
open Go.RowKit

/-- Block g holds a slice that reads as the runes E; they lie elsewhere, from lo on. -/
def EdgeSt (lo g : Nat) (E : List Int) (w : World) : Prop := ∃ (A : Option Addr) (n c : Nat), Blk w g 61 #[.slice A n c] ∧ RdX w (fun b => b ≠ g ∧ lo ≤ b) 1 A n (runeCells E) ∧ n ≤ c
/-- All blocks but g are as they were. -/
def But (w : World) (g : Nat) (w' : World) : Prop := w.heap.size ≤ w'.heap.size ∧ w'.os = w.os ∧ w'.tape = w.tape ∧ w'.output = w.output ∧ ∀ k, k < w.heap.size → k ≠ g → w'.heap[k]? = w.heap[k]?
theorem But.refl (w : World) (g : Nat) : But w g w := ⟨Nat.le_refl _, rfl, rfl, rfl, fun _ _ _ => rfl⟩
theorem But.trans {w w1 w2 : World} {g : Nat} (h : But w g w1) (h2 : But w1 g w2) : But w g w2 :=
  ⟨Nat.le_trans h.1 h2.1, h2.2.1.trans h.2.1, h2.2.2.1.trans h.2.2.1, h2.2.2.2.1.trans h.2.2.2.1, fun k hk hne => (h2.2.2.2.2 k (Nat.lt_of_lt_of_le hk h.1) hne).trans (h.2.2.2.2 k hk hne)⟩
theorem But.below {w w1 : World} (g : Nat) (h : Below w.heap.size w w1) : But w g w1 := ⟨h.size, h.os, h.tape, h.output, fun k hk _ => h.block k hk⟩
theorem But.set (w : World) (g i : Nat) (u : Value) : But w g (w.setCell ⟨g, i, none⟩ u) := ⟨by simp, rfl, rfl, rfl, fun k _ hne => Below.heap_setCell _ _ _ _ hne⟩
theorem But.to {w w1 : World} {g B : Nat} (h : But w g w1) (hB : B ≤ w.heap.size) (hg : B ≤ g) : Below B w w1 := ⟨h.2.1, h.2.2.1, h.2.2.2.1, h.1, fun k hk => h.2.2.2.2 k (by omega) (by omega)⟩
theorem But.drewN (w : World) (C k : Nat) : But w C (w.drewN k) := But.below C (below_drewN (Below.refl _ _) k)
theorem But.keeps {w w1 : World} {g : Nat} {X X' : Nat → Prop} (h : But w g w1) (hX : ∀ b, X b → b ≠ g) (h2 : ∀ b, X b → b < w.heap.size → X' b) : Keeps w X w1 X' :=
  fun b hb hl => ⟨h.2.2.2.2 b hl (hX b hb), h2 b hb hl, Nat.lt_of_lt_of_le hl h.1⟩

theorem runes_sub {w : World} {X : Nat → Prop} {b off n : Nat} {E : List Int} (h : RdX w X 1 (some ⟨b, off, none⟩) n (runeCells E)) (hb : b < w.heap.size) {k : Nat} (hk : k ≤ n) :
    Rd w w.heap.size 1 (some ⟨b, off, none⟩) k (runeCells (E.take k)) ∧ Rd w w.heap.size 1 (some ⟨b, off + k, none⟩) (n - k) (runeCells (E.drop k)) := by
  have hl : E.length = n := by have := h.1; rw [runeCells_length] at this; omega
  refine ⟨⟨by rw [runeCells_length, List.length_take]; omega, fun h0 => ⟨b, off, rfl, hb, fun j u hu => ?_⟩⟩, ⟨by rw [runeCells_length, List.length_drop]; omega, fun h0 => ⟨b, off + k, rfl, hb, fun j u hu => ?_⟩⟩⟩
  · obtain ⟨b', off', e, _, _, hc⟩ := h.2 (by omega)
    cases e
    rw [runeCells_at, List.getElem?_take] at hu
    by_cases hj : j < k
    · rw [if_pos hj] at hu
      exact hc j u (by rw [runeCells_at]; exact hu)
    · rw [if_neg hj] at hu; cases hu
  · obtain ⟨b', off', e, _, _, hc⟩ := h.2 (by omega)
    cases e
    rw [runeCells_at, List.getElem?_drop] at hu
    rw [Nat.add_assoc]
    exact hc (k + j) u (by rw [runeCells_at]; exact hu)
theorem split_at {E : List Int} {r : Int} {k : Nat} (h1 : ∀ t x, t < k → E[t]? = some x → x < r) (h2 : ∀ x, E[k]? = some x → r ≤ x) : E.takeWhile (fun x => decide (x < r)) = E.take k ∧ E.dropWhile (fun x => decide (x < r)) = E.drop k := by
  induction E generalizing k with
  | nil => simp
  | cons a E ih =>
    cases k with
    | zero =>
      have := h2 a rfl
      rw [List.takeWhile_cons, List.dropWhile_cons, if_neg (by simp; omega), if_neg (by simp; omega)]
      exact ⟨rfl, rfl⟩
    | succ k =>
      have := h1 0 a (by omega) rfl
      rw [List.takeWhile_cons, List.dropWhile_cons, if_pos (by simpa using this), if_pos (by simpa using this)]
      obtain ⟨g1, g2⟩ := ih (k := k) (fun t x ht hx => h1 (t + 1) x (by omega) (by simpa using hx)) (fun x hx => h2 x (by simpa using hx))
      rw [g1, g2]
      exact ⟨rfl, rfl⟩

theorem rd_nil0 (w : World) (B sz : Nat) (A : Option Addr) : Rd w B sz A 0 [] := ⟨by simp, fun h => absurd h (Nat.lt_irrefl 0)⟩
/-- A cell of its own block stays while another row grows. -/
theorem one_kept {w w' : World} {g base sz n : Nat} {t e : TypeId} {u v v' : Value} {xs ys : List Value} {m : Nat} (h : Blk w g t #[u]) (_ : w.ownsRow base e sz v m ys) (ha : Appended base e sz v w n xs v' w') (hne : v.ownBlock ≠ some g) : Rd w' w'.heap.size 1 (some ⟨g, 0, none⟩) 1 [u] := by
  have hb := ha.2.1.block g h.lt (fun e => hne e.symm)
  refine ⟨rfl, fun _ => ⟨g, 0, rfl, Nat.lt_of_lt_of_le h.lt ha.2.1.size, fun j x hx => ?_⟩⟩
  have h2 : Blk w' g t #[u] := hb.trans h
  rw [h2.cell, Nat.zero_add]
  simpa using hx
def EgPeRel (w : World) (E : List Int) (r : Int) (n : Nat) (s : Value) (wr : World) : Prop :=
  ∃ k : Nat, k ≤ n ∧ s = .int .i64 k ∧ w = wr ∧ ∀ t x, t < k → E[t]? = some x → x < r

set_option maxRecDepth 100000 in
set_option maxHeartbeats 1600000 in
theorem put_edge (lo g b off n c : Nat) (E : List Int) (r : Int) (w : World) (hE : E.Pairwise (· < ·)) (_ : lo ≤ w.heap.size) (hB : Blk w g 61 #[.slice (some ⟨b, off, none⟩) n c]) (hX : RdX w (fun x => x ≠ g ∧ lo ≤ x) 1 (some ⟨b, off, none⟩) n (runeCells E)) (hbb : b < w.heap.size) (hbg : b ≠ g ∧ lo ≤ b) (hn : n ≤ 1000000) (hnc : n ≤ c) :
    Calls Tryz.prog 163 (#[.int .i32 r] ++ #[.pointer (some ⟨g, 0, none⟩)]) w fun e w' => e = .returned (.tuple #[]) ∧ EdgeSt lo g (putP E r) w' ∧ But w g w' := by
  obtain ⟨i0, hi, hz0, hz1, hz2⟩ := info_parts Tryz.info21
  have hlen : E.length = n := by have := hX.1; rw [runeCells_length] at this; omega
  have c0 : w.cell? ⟨g, 0, none⟩ = some (.slice (some ⟨b, off, none⟩) n c) := hB.cell 0
  have f0 := hB.frozen 0
  have HE := Lib.hid hE
  have HB := Lib.hid hB
  have HX := Lib.hid hX
  have HLEN := Lib.hid hlen
  have HCELL := Lib.hid (fun (k : Nat) (x : Int) (h : E[k]? = some x) => show w.cell? ⟨b, off + k, none⟩ = some (.int .i32 x) by
    have hk := (List.getElem?_eq_some_iff.1 h).1
    obtain ⟨b', off', e, _, _, hc⟩ := hX.2 (by omega)
    cases e
    exact hc k _ (by rw [runeCells_at, h]; rfl))
  clear hE hB hX hlen
  go_enter Tryz.func163, Tryz.ntmps163
  go_wp2_with fail
  go_loopw [3] (EgPeRel w E r n) (fun i _ => n - (intOf i).toNat)
  case atStart => exact ⟨0, Nat.zero_le _, rfl, rfl, fun t x ht => absurd ht (Nat.not_lt_zero _)⟩
  case round =>
    obtain ⟨k, hk, rfl, rfl, hlow⟩ := hrel
    have HL := Lib.hid hlow
    clear hlow
    by_cases hgo : ∃ x, E[k]? = some x ∧ x < r
    · obtain ⟨x, hx, hxr⟩ := hgo
      have hlt : k < n := by rw [← HLEN.out]; exact (List.getElem?_eq_some_iff.1 hx).1
      have hc := HCELL.out k x hx
      have hd : decide (x < r) = true := decide_eq_true hxr
      have HS := Lib.hid (fun t y (ht : t < k + 1) (hy : E[t]? = some y) => show y < r by
        rcases Nat.lt_or_ge t k with h | h
        · exact HL.out t y h hy
        · obtain rfl : t = k := by omega
          rw [hx] at hy; cases hy; exact hxr)
      clear hx
      go_wp2_with fail
      exact ⟨⟨k + 1, by omega, by go_num, rfl, HS.out⟩, by simp [intOf]; omega⟩
    · have HSP := Lib.hid (split_at HL.out (fun y hy => by
        rcases Int.lt_or_le y r with h | h
        · exact absurd ⟨y, hy, h⟩ hgo
        · exact h))
      have hcase : k = n ∨ ∃ x, E[k]? = some x ∧ ¬ x < r := by
        rcases Nat.lt_or_ge k n with h | h
        · obtain ⟨x, hx⟩ : ∃ z, E[k]? = some z := ⟨_, List.getElem?_eq_getElem (by rw [HLEN.out]; exact h)⟩
          exact .inr ⟨x, hx, fun h2 => hgo ⟨x, hx, h2⟩⟩
        · exact .inl (by omega)
      clear hgo
      by_cases hbig : 1114111 < r
      · have HP := Lib.hid (show putP E r = E by unfold putP; rw [if_pos (.inl hbig)])
        rcases hcase with rfl | ⟨x, hx, hxr⟩
        · go_wp2_with fail
          (try simp only [Exit.inBlock, Exit.then])
          refine bodyPost_ret (results_none rfl _ _ _) rfl ?_
          exact ⟨rfl, by rw [HP.out]; exact ⟨_, _, _, HB.out, HX.out, hnc⟩, But.refl _ _⟩
        · have hlt : k < n := by rw [← HLEN.out]; exact (List.getElem?_eq_some_iff.1 hx).1
          have hc := HCELL.out k x hx
          clear hx
          go_wp2_with fail
          (try simp only [Exit.inBlock, Exit.then])
          refine bodyPost_ret (results_none rfl _ _ _) rfl ?_
          exact ⟨rfl, by rw [HP.out]; exact ⟨_, _, _, HB.out, HX.out, hnc⟩, But.refl _ _⟩
      · by_cases heq : E[k]? = some r
        · have HP := Lib.hid (show putP E r = E by unfold putP; rw [if_pos (.inr (List.mem_of_getElem? heq))])
          have hlt : k < n := by rw [← HLEN.out]; exact (List.getElem?_eq_some_iff.1 heq).1
          have hc := HCELL.out k r heq
          clear heq hcase
          go_wp2_with fail
          (try simp only [Exit.inBlock, Exit.then])
          refine bodyPost_ret (results_none rfl _ _ _) rfl ?_
          exact ⟨rfl, by rw [HP.out]; exact ⟨_, _, _, HB.out, HX.out, hnc⟩, But.refl _ _⟩
        · have HP := Lib.hid (show putP E r = E.take k ++ r :: E.drop k by
            unfold putP
            rw [if_neg, HSP.out.1, HSP.out.2]
            rw [not_or]
            refine ⟨hbig, fun hm => ?_⟩
            obtain ⟨i, hi⟩ := List.mem_iff_getElem?.1 hm
            rcases Nat.lt_trichotomy i k with h | rfl | h
            · have := HL.out i r h hi; omega
            · exact heq hi
            · rcases hcase with rfl | ⟨x, hx, hxr⟩
              · have := (List.getElem?_eq_some_iff.1 hi).1
                rw [HLEN.out] at this
                omega
              · have := rise_at HE.out hx hi h
                omega)
          have HR := Lib.hid (runes_sub HX.out hbb hk)
          have HR1 := Lib.hid (fun (W : World) (hw : Below w.heap.size w W) => Rd.below HR.out.1 hw)
          have HR2 := Lib.hid (fun (W : World) (hw : Below w.heap.size w W) => Rd.below HR.out.2 hw)
          have HC := Lib.hid (fun (W : World) (hw : Below w.heap.size w W) => (Blk.below HB.out hw HB.out.lt).cell 0)
          have H1C := Lib.hid (show ∀ u ∈ [Value.int .i32 r], u.oneCell' = true by intro x hx; simp at hx; subst hx; rfl)
          have HB06 := Lib.hid (show Blk ((w.alloc (.cells #[] 21)).alloc (.cells #[.int .i32 r] 21)) (w.heap.size + 1) 21 #[.int .i32 r] by
            have := Blk.new (w.alloc (.cells #[] 21)) 21 #[.int .i32 r]
            simpa using this)
          have HB60 := Lib.hid (Blk.alloc (Blk.new w 21 #[.int .i32 r]) (.cells #[] 21))
          have HFIN := Lib.hid (fun (v : Value) (W : World) (ho : W.ownsRow w.heap.size 21 1 v (k + 1 + (n - k)) (runeCells (E.take k) ++ [.int .i32 r] ++ runeCells (E.drop k))) (hw : Below w.heap.size w W) => show EdgeSt lo g (putP E r) (W.setCell ⟨g, 0, none⟩ v) by
            obtain ⟨A, cc, rfl, hcc⟩ := own_form ho
            refine ⟨A, _, cc, Blk.put (Blk.below HB.out hw HB.out.lt) 0 _, ?_, hcc⟩
            rw [HP.out, show runeCells (E.take k ++ r :: E.drop k) = runeCells (E.take k) ++ [.int .i32 r] ++ runeCells (E.drop k) by simp [runeCells]]
            have hlt := HB.out.lt
            refine (RdX.of_own (X := fun x => x ≠ g ∧ lo ≤ x) ho (fun x hx => ?_)).keep ((But.set W g 0 _).keeps (fun _ h => h.1) (fun _ h _ => h))
            have := (own_lt ho hx).1
            exact ⟨by omega, by omega⟩)
          -- REGION
          rcases hcase with rfl | ⟨x, hx, hxr⟩
          · have HD0 := Lib.hid (show runeCells (E.drop k) = [] by rw [List.drop_of_length_le (by rw [HLEN.out]; exact Nat.le_refl _)]; rfl)
            rw [Nat.sub_self] at HFIN
            clear heq
            go_upto_region 4 with fail
            refine wp_region_till (S := fun w' => w'.cell? ⟨g, 0, none⟩ = some (.slice (some ⟨b, off, none⟩) k c)) [1, 8] (by kernel_rfl) c0 (fun hHeld => ?_)
            refine wpTill_pure (i := 2) (v := ?_) rfl (by kernel_rfl) (by kernel_rfl) (by kernel_rfl) (fun _ _ _ h => h) (Or.inl ⟨by rfl, ?_⟩) ?_
            rotate_left 1
            · intro w _
              go_simp
              try with_reducible rfl
            try simp only [Act.put]
            refine wpTill_pure (i := 5) (v := ?_) rfl (by kernel_rfl) (by kernel_rfl) (by kernel_rfl) (fun _ _ _ h => h) (Or.inl ⟨by rfl, ?_⟩) ?_
            rotate_left 1
            · intro w _
              go_simp
              try with_reducible rfl
            try simp only [Act.put]
            refine wpTill_pure (i := 9) (v := ?_) rfl (by kernel_rfl) (by kernel_rfl) (by kernel_rfl) (fun _ _ _ h => h) (Or.inl ⟨by rfl, ?_⟩) ?_
            rotate_left 1
            · intro w _
              go_simp
              try with_reducible rfl
            try simp only [Act.put]
            refine wpTill_take (i := 1) (v := ?_) rfl (by kernel_rfl) (by kernel_rfl) (by kernel_rfl) (by kernel_rfl) (by kernel_rfl) (fun _ _ _ h => h) (Or.inl ⟨by rfl, ?_⟩) (by assumption) ?_
            rotate_left 1
            · intro w hSw
              (try dsimp only at hSw)
              go_simp
              try with_reducible rfl
            try simp only [Act.put]
            refine wpTill_pure (i := 3) (v := ?_) rfl (by kernel_rfl) (by kernel_rfl) (by kernel_rfl) (fun _ _ _ h => h) (Or.inl ⟨by rfl, ?_⟩) ?_
            rotate_left 1
            · intro w _
              go_simp
              try with_reducible rfl
            try simp only [Act.put]
            refine wpTill_take (i := 8) (v := ?_) rfl (by kernel_rfl) (by kernel_rfl) (by kernel_rfl) (by kernel_rfl) (by kernel_rfl) (fun _ _ _ h => h) (Or.inl ⟨by rfl, ?_⟩) (by assumption) ?_
            rotate_left 1
            · intro w hSw
              (try dsimp only at hSw)
              go_simp
              try with_reducible rfl
            try simp only [Act.put]
            refine wpTill_pure (i := 10) (v := ?_) rfl (by kernel_rfl) (by kernel_rfl) (by kernel_rfl) (fun _ _ _ h => h) (Or.inl ⟨by rfl, ?_⟩) ?_
            rotate_left 1
            · intro w _
              go_simp
              try with_reducible rfl
            try simp only [Act.put]
            refine wpTill_two (i := 0) (j := 6) (by kernel_rfl) rfl rfl (fun K hK => ?_) (fun K hK => ?_)
            · go_simp
              refine hK.out _ _ ?_ (fun hHeld => ?_)
              · exact HC.out _ (below_drew1 ((Below.refl w.heap.size w).alloc (Below.refl w.heap.size w).size (.cells #[] 21)))
              clear hK K
              refine wpTill_two (i := 4) (j := 6) (by kernel_rfl) rfl rfl (fun K hK => ?_) (fun K hK => ?_)
              · refine step_append_rd _ rfl (.tmp 34) (.tmp 37) 61 rfl w.heap.size 21 i0 _ 1 4 Tryz.underlying61 hi hz0 hz1 hz2 rfl (by decide) _ _ _ rfl (own_empty w 21 1 w.heap.size w.heap.size rfl (Nat.le_refl _)) _ (some ⟨b, off, none⟩) k c (runeCells (E.take k)) rfl (HR1.out _ (below_drew1 ((Below.refl w.heap.size w).alloc (Nat.le_refl _) (.cells #[] 21)))) (runeCells_one _) (by simp only [maxLen]; omega) (by omega) (below_drew1 ((Below.refl w.heap.size w).alloc (Nat.le_refl _) (.cells #[] 21))).size ?_
                intro v9 w9 happ
                try dsimp only
                refine hK.out _ _ ?_ (fun hHeld => ?_)
                · exact HC.out _ ((below_drew1 ((Below.refl w.heap.size w).alloc (Nat.le_refl _) (.cells #[] 21))).trans (happ.below (below_drew1 ((Below.refl w.heap.size w).alloc (Nat.le_refl _) (.cells #[] 21))).size (own_empty w 21 1 w.heap.size w.heap.size rfl (Nat.le_refl _))))
                clear hK K
                have HO4 := Lib.hid (show w9.ownsRow w.heap.size 21 1 v9 k (runeCells (E.take k)) by have := happ.own; rwa [Nat.zero_add, List.nil_append] at this)
                have HB4 := Lib.hid ((below_drew1 ((Below.refl w.heap.size w).alloc (Nat.le_refl _) (.cells #[] 21))).trans (happ.below (below_drew1 ((Below.refl w.heap.size w).alloc (Nat.le_refl _) (.cells #[] 21))).size (own_empty w 21 1 w.heap.size w.heap.size rfl (Nat.le_refl _))))
                clear happ
                obtain ⟨Av4, cv4, rfl, _⟩ := own_form HO4.out
                refine wpTill_one (i := 6) (by kernel_rfl) rfl (fun K hK => ?_)
                go_simp
                refine hK.out _ _ ?_ (fun hHeld => ?_)
                · exact HC.out _ (HB4.out.alloc HB4.out.size (.cells #[.int .i32 r] 21))
                clear hK K
                refine wpTill_one (i := 7) (by kernel_rfl) rfl (fun K hK => ?_)
                refine step_append_rd _ rfl (.tmp 38) (.tmp 40) 61 rfl w.heap.size 21 i0 _ 1 4 Tryz.underlying61 hi hz0 hz1 hz2 rfl (by decide) _ _ _ rfl (World.ownsRow.alloc HO4.out (.cells #[.int .i32 r] 21)) _ (some ⟨w9.heap.size, 0, none⟩) 1 1 [.int .i32 r] rfl (Rd.new w9 21 1 1 [.int .i32 r] rfl) H1C.out (by simp only [maxLen]; omega) (by omega) (HB4.out.alloc HB4.out.size (.cells #[.int .i32 r] 21)).size ?_
                intro v9 w9 happ
                try dsimp only
                refine hK.out _ _ ?_ (fun hHeld => ?_)
                · exact HC.out _ ((HB4.out.alloc HB4.out.size (.cells #[.int .i32 r] 21)).trans (happ.below (HB4.out.alloc HB4.out.size (.cells #[.int .i32 r] 21)).size (World.ownsRow.alloc HO4.out (.cells #[.int .i32 r] 21))))
                clear hK K
                have HO7 := Lib.hid happ.own
                have HB7 := Lib.hid ((HB4.out.alloc HB4.out.size (.cells #[.int .i32 r] 21)).trans (happ.below (HB4.out.alloc HB4.out.size (.cells #[.int .i32 r] 21)).size (World.ownsRow.alloc HO4.out (.cells #[.int .i32 r] 21))))
                clear happ
                obtain ⟨Av7, cv7, rfl, _⟩ := own_form HO7.out
                refine wpTill_late (i := 11) (by kernel_rfl) rfl (by kernel_rfl) (fun K hK => ?_)
                refine step_append_rd _ rfl (.tmp 41) (.tmp 44) 61 rfl w.heap.size 21 i0 _ 1 4 Tryz.underlying61 hi hz0 hz1 hz2 rfl (by decide) _ _ _ rfl HO7.out w9.heap.size _ 0 (c - k) [] rfl (rd_nil0 _ _ _ _) (by simp) (by simp only [maxLen]; omega) (by omega) HB7.out.size ?_
                intro v9 w9 happ
                obtain ⟨Av9, cv9, rfl, _⟩ := own_form happ.own
                have HO9 := Lib.hid happ.own
                have HB9 := Lib.hid (HB7.out.trans (happ.below HB7.out.size HO7.out))
                clear happ
                try dsimp only
                refine hK.out _ _ ?_
                clear hK K
                have HBW := Lib.hid (Blk.below HB.out HB9.out HB.out.lt)
                have cf := HBW.out.cell 0
                have ff := HBW.out.frozen 0
                refine wpTill_late (i := 12) (by kernel_rfl) rfl (by kernel_rfl) (fun K hK => ?_)
                go_simp
                refine hK.out _ _ ?_
                clear hK K
                refine wpTill_done (by kernel_rfl) ?_ _
                go_simp
                go_wp2_with fail
                all_goals
                  go_end0
                  exact ⟨rfl, HFIN.out _ _ (by have := HO9.out; rw [HD0.out]; exact this) HB9.out, (But.below g HB9.out).trans (But.set _ _ _ _)⟩
              · go_simp
                refine hK.out _ _ ?_ (fun hHeld => ?_)
                · exact HC.out _ (below_drew1 (((Below.refl w.heap.size w).alloc (Nat.le_refl _) (.cells #[] 21)).alloc ((Below.refl w.heap.size w).alloc (Nat.le_refl _) (.cells #[] 21)).size (.cells #[.int .i32 r] 21)))
                clear hK K
                refine wpTill_one (i := 4) (by kernel_rfl) rfl (fun K hK => ?_)
                refine step_append_rd _ rfl (.tmp 34) (.tmp 37) 61 rfl w.heap.size 21 i0 _ 1 4 Tryz.underlying61 hi hz0 hz1 hz2 rfl (by decide) _ _ _ rfl (World.ownsRow.alloc (own_empty w 21 1 w.heap.size w.heap.size rfl (Nat.le_refl _)) (.cells #[.int .i32 r] 21)) _ (some ⟨b, off, none⟩) k c (runeCells (E.take k)) rfl (HR1.out _ (below_drew1 (((Below.refl w.heap.size w).alloc (Nat.le_refl _) (.cells #[] 21)).alloc (by simp) (.cells #[.int .i32 r] 21)))) (runeCells_one _) (by simp only [maxLen]; omega) (by omega) (below_drew1 (((Below.refl w.heap.size w).alloc (Nat.le_refl _) (.cells #[] 21)).alloc (by simp) (.cells #[.int .i32 r] 21))).size ?_
                intro v9 w9 happ
                try dsimp only
                refine hK.out _ _ ?_ (fun hHeld => ?_)
                · exact HC.out _ ((below_drew1 (((Below.refl w.heap.size w).alloc (Nat.le_refl _) (.cells #[] 21)).alloc (by simp) (.cells #[.int .i32 r] 21))).trans (happ.below (below_drew1 (((Below.refl w.heap.size w).alloc (Nat.le_refl _) (.cells #[] 21)).alloc (by simp) (.cells #[.int .i32 r] 21))).size (World.ownsRow.alloc (own_empty w 21 1 w.heap.size w.heap.size rfl (Nat.le_refl _)) (.cells #[.int .i32 r] 21))))
                clear hK K
                have HRR := Lib.hid (one_kept (w := ((w.alloc (.cells #[] 21)).alloc (.cells #[.int .i32 r] 21)).drew) HB06.out (World.ownsRow.alloc (own_empty w 21 1 w.heap.size w.heap.size rfl (Nat.le_refl _)) (.cells #[.int .i32 r] 21)) happ (by simp [Value.ownBlock]))
                have HO4 := Lib.hid (show w9.ownsRow w.heap.size 21 1 v9 k (runeCells (E.take k)) by have := happ.own; rwa [Nat.zero_add, List.nil_append] at this)
                have HB4 := Lib.hid ((below_drew1 (((Below.refl w.heap.size w).alloc (Nat.le_refl _) (.cells #[] 21)).alloc (by simp) (.cells #[.int .i32 r] 21))).trans (happ.below (below_drew1 (((Below.refl w.heap.size w).alloc (Nat.le_refl _) (.cells #[] 21)).alloc (by simp) (.cells #[.int .i32 r] 21))).size (World.ownsRow.alloc (own_empty w 21 1 w.heap.size w.heap.size rfl (Nat.le_refl _)) (.cells #[.int .i32 r] 21))))
                clear happ
                obtain ⟨Av4, cv4, rfl, _⟩ := own_form HO4.out
                refine wpTill_one (i := 7) (by kernel_rfl) rfl (fun K hK => ?_)
                refine step_append_rd _ rfl (.tmp 38) (.tmp 40) 61 rfl w.heap.size 21 i0 _ 1 4 Tryz.underlying61 hi hz0 hz1 hz2 rfl (by decide) _ _ _ rfl HO4.out _ (some ⟨w.heap.size + 1, 0, none⟩) 1 1 [.int .i32 r] rfl HRR.out H1C.out (by simp only [maxLen]; omega) (by omega) HB4.out.size ?_
                intro v9 w9 happ
                try dsimp only
                refine hK.out _ _ ?_ (fun hHeld => ?_)
                · exact HC.out _ (HB4.out.trans (happ.below HB4.out.size HO4.out))
                clear hK K
                have HO7 := Lib.hid happ.own
                have HB7 := Lib.hid (HB4.out.trans (happ.below HB4.out.size HO4.out))
                clear happ
                obtain ⟨Av7, cv7, rfl, _⟩ := own_form HO7.out
                refine wpTill_late (i := 11) (by kernel_rfl) rfl (by kernel_rfl) (fun K hK => ?_)
                refine step_append_rd _ rfl (.tmp 41) (.tmp 44) 61 rfl w.heap.size 21 i0 _ 1 4 Tryz.underlying61 hi hz0 hz1 hz2 rfl (by decide) _ _ _ rfl HO7.out w9.heap.size _ 0 (c - k) [] rfl (rd_nil0 _ _ _ _) (by simp) (by simp only [maxLen]; omega) (by omega) HB7.out.size ?_
                intro v9 w9 happ
                obtain ⟨Av9, cv9, rfl, _⟩ := own_form happ.own
                have HO9 := Lib.hid happ.own
                have HB9 := Lib.hid (HB7.out.trans (happ.below HB7.out.size HO7.out))
                clear happ
                try dsimp only
                refine hK.out _ _ ?_
                clear hK K
                have HBW := Lib.hid (Blk.below HB.out HB9.out HB.out.lt)
                have cf := HBW.out.cell 0
                have ff := HBW.out.frozen 0
                refine wpTill_late (i := 12) (by kernel_rfl) rfl (by kernel_rfl) (fun K hK => ?_)
                go_simp
                refine hK.out _ _ ?_
                clear hK K
                refine wpTill_done (by kernel_rfl) ?_ _
                go_simp
                go_wp2_with fail
                all_goals
                  go_end0
                  exact ⟨rfl, HFIN.out _ _ (by have := HO9.out; rw [HD0.out]; exact this) HB9.out, (But.below g HB9.out).trans (But.set _ _ _ _)⟩
            · go_simp
              refine hK.out _ _ ?_ (fun hHeld => ?_)
              · exact HC.out _ (below_drew1 ((Below.refl w.heap.size w).alloc (Below.refl w.heap.size w).size (.cells #[.int .i32 r] 21)))
              clear hK K
              refine wpTill_one (i := 0) (by kernel_rfl) rfl (fun K hK => ?_)
              go_simp
              refine hK.out _ _ ?_ (fun hHeld => ?_)
              · exact HC.out _ (below_drew1 (((Below.refl w.heap.size w).alloc (Nat.le_refl _) (.cells #[.int .i32 r] 21)).alloc ((Below.refl w.heap.size w).alloc (Nat.le_refl _) (.cells #[.int .i32 r] 21)).size (.cells #[] 21)))
              clear hK K
              refine wpTill_one (i := 4) (by kernel_rfl) rfl (fun K hK => ?_)
              refine step_append_rd _ rfl (.tmp 34) (.tmp 37) 61 rfl w.heap.size 21 i0 _ 1 4 Tryz.underlying61 hi hz0 hz1 hz2 rfl (by decide) _ _ _ rfl (own_empty (w.alloc (.cells #[.int .i32 r] 21)) 21 1 (w.heap.size + 1) w.heap.size (by simp) (by omega)) _ (some ⟨b, off, none⟩) k c (runeCells (E.take k)) rfl (HR1.out _ (below_drew1 (((Below.refl w.heap.size w).alloc (Nat.le_refl _) (.cells #[.int .i32 r] 21)).alloc (by simp) (.cells #[] 21)))) (runeCells_one _) (by simp only [maxLen]; omega) (by omega) (below_drew1 (((Below.refl w.heap.size w).alloc (Nat.le_refl _) (.cells #[.int .i32 r] 21)).alloc (by simp) (.cells #[] 21))).size ?_
              intro v9 w9 happ
              try dsimp only
              refine hK.out _ _ ?_ (fun hHeld => ?_)
              · exact HC.out _ ((below_drew1 (((Below.refl w.heap.size w).alloc (Nat.le_refl _) (.cells #[.int .i32 r] 21)).alloc (by simp) (.cells #[] 21))).trans (happ.below (below_drew1 (((Below.refl w.heap.size w).alloc (Nat.le_refl _) (.cells #[.int .i32 r] 21)).alloc (by simp) (.cells #[] 21))).size (own_empty (w.alloc (.cells #[.int .i32 r] 21)) 21 1 (w.heap.size + 1) w.heap.size (by simp) (by omega))))
              clear hK K
              have HRR := Lib.hid (one_kept (w := ((w.alloc (.cells #[.int .i32 r] 21)).alloc (.cells #[] 21)).drew) HB60.out (own_empty (w.alloc (.cells #[.int .i32 r] 21)) 21 1 (w.heap.size + 1) w.heap.size (by simp) (by omega)) happ (by simp [Value.ownBlock]))
              have HO4 := Lib.hid (show w9.ownsRow w.heap.size 21 1 v9 k (runeCells (E.take k)) by have := happ.own; rwa [Nat.zero_add, List.nil_append] at this)
              have HB4 := Lib.hid ((below_drew1 (((Below.refl w.heap.size w).alloc (Nat.le_refl _) (.cells #[.int .i32 r] 21)).alloc (by simp) (.cells #[] 21))).trans (happ.below (below_drew1 (((Below.refl w.heap.size w).alloc (Nat.le_refl _) (.cells #[.int .i32 r] 21)).alloc (by simp) (.cells #[] 21))).size (own_empty (w.alloc (.cells #[.int .i32 r] 21)) 21 1 (w.heap.size + 1) w.heap.size (by simp) (by omega))))
              clear happ
              obtain ⟨Av4, cv4, rfl, _⟩ := own_form HO4.out
              refine wpTill_one (i := 7) (by kernel_rfl) rfl (fun K hK => ?_)
              refine step_append_rd _ rfl (.tmp 38) (.tmp 40) 61 rfl w.heap.size 21 i0 _ 1 4 Tryz.underlying61 hi hz0 hz1 hz2 rfl (by decide) _ _ _ rfl HO4.out _ (some ⟨w.heap.size, 0, none⟩) 1 1 [.int .i32 r] rfl HRR.out H1C.out (by simp only [maxLen]; omega) (by omega) HB4.out.size ?_
              intro v9 w9 happ
              try dsimp only
              refine hK.out _ _ ?_ (fun hHeld => ?_)
              · exact HC.out _ (HB4.out.trans (happ.below HB4.out.size HO4.out))
              clear hK K
              have HO7 := Lib.hid happ.own
              have HB7 := Lib.hid (HB4.out.trans (happ.below HB4.out.size HO4.out))
              clear happ
              obtain ⟨Av7, cv7, rfl, _⟩ := own_form HO7.out
              refine wpTill_late (i := 11) (by kernel_rfl) rfl (by kernel_rfl) (fun K hK => ?_)
              refine step_append_rd _ rfl (.tmp 41) (.tmp 44) 61 rfl w.heap.size 21 i0 _ 1 4 Tryz.underlying61 hi hz0 hz1 hz2 rfl (by decide) _ _ _ rfl HO7.out w9.heap.size _ 0 (c - k) [] rfl (rd_nil0 _ _ _ _) (by simp) (by simp only [maxLen]; omega) (by omega) HB7.out.size ?_
              intro v9 w9 happ
              obtain ⟨Av9, cv9, rfl, _⟩ := own_form happ.own
              have HO9 := Lib.hid happ.own
              have HB9 := Lib.hid (HB7.out.trans (happ.below HB7.out.size HO7.out))
              clear happ
              try dsimp only
              refine hK.out _ _ ?_
              clear hK K
              have HBW := Lib.hid (Blk.below HB.out HB9.out HB.out.lt)
              have cf := HBW.out.cell 0
              have ff := HBW.out.frozen 0
              refine wpTill_late (i := 12) (by kernel_rfl) rfl (by kernel_rfl) (fun K hK => ?_)
              go_simp
              refine hK.out _ _ ?_
              clear hK K
              refine wpTill_done (by kernel_rfl) ?_ _
              go_simp
              go_wp2_with fail
              all_goals
                go_end0
                exact ⟨rfl, HFIN.out _ _ (by have := HO9.out; rw [HD0.out]; exact this) HB9.out, (But.below g HB9.out).trans (But.set _ _ _ _)⟩
          · have hlt : k < n := by rw [← HLEN.out]; exact (List.getElem?_eq_some_iff.1 hx).1
            have hc := HCELL.out k x hx
            have hne : (x == r) = false := by
              rw [beq_eq_false_iff_ne]
              rintro rfl
              exact heq hx
            have hck : c ≠ k := by omega
            have hkc : k ≤ c := by omega
            clear hx heq
            go_upto_region 4 with fail
            refine wp_region_till (S := fun w' => w'.cell? ⟨g, 0, none⟩ = some (.slice (some ⟨b, off, none⟩) n c)) [1, 8] (by kernel_rfl) c0 (fun hHeld => ?_)
            refine wpTill_pure (i := 2) (v := ?_) rfl (by kernel_rfl) (by kernel_rfl) (by kernel_rfl) (fun _ _ _ h => h) (Or.inl ⟨by rfl, ?_⟩) ?_
            rotate_left 1
            · intro w _
              go_simp
              try with_reducible rfl
            try simp only [Act.put]
            refine wpTill_pure (i := 5) (v := ?_) rfl (by kernel_rfl) (by kernel_rfl) (by kernel_rfl) (fun _ _ _ h => h) (Or.inl ⟨by rfl, ?_⟩) ?_
            rotate_left 1
            · intro w _
              go_simp
              try with_reducible rfl
            try simp only [Act.put]
            refine wpTill_pure (i := 9) (v := ?_) rfl (by kernel_rfl) (by kernel_rfl) (by kernel_rfl) (fun _ _ _ h => h) (Or.inl ⟨by rfl, ?_⟩) ?_
            rotate_left 1
            · intro w _
              go_simp
              try with_reducible rfl
            try simp only [Act.put]
            refine wpTill_take (i := 1) (v := ?_) rfl (by kernel_rfl) (by kernel_rfl) (by kernel_rfl) (by kernel_rfl) (by kernel_rfl) (fun _ _ _ h => h) (Or.inl ⟨by rfl, ?_⟩) (by assumption) ?_
            rotate_left 1
            · intro w hSw
              (try dsimp only at hSw)
              go_simp
              try with_reducible rfl
            try simp only [Act.put]
            refine wpTill_pure (i := 3) (v := ?_) rfl (by kernel_rfl) (by kernel_rfl) (by kernel_rfl) (fun _ _ _ h => h) (Or.inl ⟨by rfl, ?_⟩) ?_
            rotate_left 1
            · intro w _
              go_simp
              try with_reducible rfl
            try simp only [Act.put]
            refine wpTill_take (i := 8) (v := ?_) rfl (by kernel_rfl) (by kernel_rfl) (by kernel_rfl) (by kernel_rfl) (by kernel_rfl) (fun _ _ _ h => h) (Or.inl ⟨by rfl, ?_⟩) (by assumption) ?_
            rotate_left 1
            · intro w hSw
              (try dsimp only at hSw)
              go_simp
              try with_reducible rfl
            try simp only [Act.put]
            refine wpTill_pure (i := 10) (v := ?_) rfl (by kernel_rfl) (by kernel_rfl) (by kernel_rfl) (fun _ _ _ h => h) (Or.inl ⟨by rfl, ?_⟩) ?_
            rotate_left 1
            · intro w _
              go_simp
              try with_reducible rfl
            try simp only [Act.put]
            refine wpTill_two (i := 0) (j := 6) (by kernel_rfl) rfl rfl (fun K hK => ?_) (fun K hK => ?_)
            · go_simp
              refine hK.out _ _ ?_ (fun hHeld => ?_)
              · exact HC.out _ (below_drew1 ((Below.refl w.heap.size w).alloc (Below.refl w.heap.size w).size (.cells #[] 21)))
              clear hK K
              refine wpTill_two (i := 4) (j := 6) (by kernel_rfl) rfl rfl (fun K hK => ?_) (fun K hK => ?_)
              · refine step_append_rd _ rfl (.tmp 34) (.tmp 37) 61 rfl w.heap.size 21 i0 _ 1 4 Tryz.underlying61 hi hz0 hz1 hz2 rfl (by decide) _ _ _ rfl (own_empty w 21 1 w.heap.size w.heap.size rfl (Nat.le_refl _)) _ (some ⟨b, off, none⟩) k c (runeCells (E.take k)) rfl (HR1.out _ (below_drew1 ((Below.refl w.heap.size w).alloc (Nat.le_refl _) (.cells #[] 21)))) (runeCells_one _) (by simp only [maxLen]; omega) (by omega) (below_drew1 ((Below.refl w.heap.size w).alloc (Nat.le_refl _) (.cells #[] 21))).size ?_
                intro v9 w9 happ
                try dsimp only
                refine hK.out _ _ ?_ (fun hHeld => ?_)
                · exact HC.out _ ((below_drew1 ((Below.refl w.heap.size w).alloc (Nat.le_refl _) (.cells #[] 21))).trans (happ.below (below_drew1 ((Below.refl w.heap.size w).alloc (Nat.le_refl _) (.cells #[] 21))).size (own_empty w 21 1 w.heap.size w.heap.size rfl (Nat.le_refl _))))
                clear hK K
                have HO4 := Lib.hid (show w9.ownsRow w.heap.size 21 1 v9 k (runeCells (E.take k)) by have := happ.own; rwa [Nat.zero_add, List.nil_append] at this)
                have HB4 := Lib.hid ((below_drew1 ((Below.refl w.heap.size w).alloc (Nat.le_refl _) (.cells #[] 21))).trans (happ.below (below_drew1 ((Below.refl w.heap.size w).alloc (Nat.le_refl _) (.cells #[] 21))).size (own_empty w 21 1 w.heap.size w.heap.size rfl (Nat.le_refl _))))
                clear happ
                obtain ⟨Av4, cv4, rfl, _⟩ := own_form HO4.out
                refine wpTill_one (i := 6) (by kernel_rfl) rfl (fun K hK => ?_)
                go_simp
                refine hK.out _ _ ?_ (fun hHeld => ?_)
                · exact HC.out _ (HB4.out.alloc HB4.out.size (.cells #[.int .i32 r] 21))
                clear hK K
                refine wpTill_one (i := 7) (by kernel_rfl) rfl (fun K hK => ?_)
                refine step_append_rd _ rfl (.tmp 38) (.tmp 40) 61 rfl w.heap.size 21 i0 _ 1 4 Tryz.underlying61 hi hz0 hz1 hz2 rfl (by decide) _ _ _ rfl (World.ownsRow.alloc HO4.out (.cells #[.int .i32 r] 21)) _ (some ⟨w9.heap.size, 0, none⟩) 1 1 [.int .i32 r] rfl (Rd.new w9 21 1 1 [.int .i32 r] rfl) H1C.out (by simp only [maxLen]; omega) (by omega) (HB4.out.alloc HB4.out.size (.cells #[.int .i32 r] 21)).size ?_
                intro v9 w9 happ
                try dsimp only
                refine hK.out _ _ ?_ (fun hHeld => ?_)
                · exact HC.out _ ((HB4.out.alloc HB4.out.size (.cells #[.int .i32 r] 21)).trans (happ.below (HB4.out.alloc HB4.out.size (.cells #[.int .i32 r] 21)).size (World.ownsRow.alloc HO4.out (.cells #[.int .i32 r] 21))))
                clear hK K
                have HO7 := Lib.hid happ.own
                have HB7 := Lib.hid ((HB4.out.alloc HB4.out.size (.cells #[.int .i32 r] 21)).trans (happ.below (HB4.out.alloc HB4.out.size (.cells #[.int .i32 r] 21)).size (World.ownsRow.alloc HO4.out (.cells #[.int .i32 r] 21))))
                clear happ
                obtain ⟨Av7, cv7, rfl, _⟩ := own_form HO7.out
                refine wpTill_late (i := 11) (by kernel_rfl) rfl (by kernel_rfl) (fun K hK => ?_)
                refine step_append_rd _ rfl (.tmp 41) (.tmp 44) 61 rfl w.heap.size 21 i0 _ 1 4 Tryz.underlying61 hi hz0 hz1 hz2 rfl (by decide) _ _ _ rfl HO7.out _ (some ⟨b, off + k, none⟩) (n - k) (c - k) (runeCells (E.drop k)) rfl (HR2.out _ HB7.out) (runeCells_one _) (by simp only [maxLen]; omega) (by omega) HB7.out.size ?_
                intro v9 w9 happ
                obtain ⟨Av9, cv9, rfl, _⟩ := own_form happ.own
                have HO9 := Lib.hid happ.own
                have HB9 := Lib.hid (HB7.out.trans (happ.below HB7.out.size HO7.out))
                clear happ
                try dsimp only
                refine hK.out _ _ ?_
                clear hK K
                have HBW := Lib.hid (Blk.below HB.out HB9.out HB.out.lt)
                have cf := HBW.out.cell 0
                have ff := HBW.out.frozen 0
                refine wpTill_late (i := 12) (by kernel_rfl) rfl (by kernel_rfl) (fun K hK => ?_)
                go_simp
                refine hK.out _ _ ?_
                clear hK K
                refine wpTill_done (by kernel_rfl) ?_ _
                go_simp
                go_wp2_with fail
                all_goals
                  go_end0
                  exact ⟨rfl, HFIN.out _ _ HO9.out HB9.out, (But.below g HB9.out).trans (But.set _ _ _ _)⟩
              · go_simp
                refine hK.out _ _ ?_ (fun hHeld => ?_)
                · exact HC.out _ (below_drew1 (((Below.refl w.heap.size w).alloc (Nat.le_refl _) (.cells #[] 21)).alloc ((Below.refl w.heap.size w).alloc (Nat.le_refl _) (.cells #[] 21)).size (.cells #[.int .i32 r] 21)))
                clear hK K
                refine wpTill_one (i := 4) (by kernel_rfl) rfl (fun K hK => ?_)
                refine step_append_rd _ rfl (.tmp 34) (.tmp 37) 61 rfl w.heap.size 21 i0 _ 1 4 Tryz.underlying61 hi hz0 hz1 hz2 rfl (by decide) _ _ _ rfl (World.ownsRow.alloc (own_empty w 21 1 w.heap.size w.heap.size rfl (Nat.le_refl _)) (.cells #[.int .i32 r] 21)) _ (some ⟨b, off, none⟩) k c (runeCells (E.take k)) rfl (HR1.out _ (below_drew1 (((Below.refl w.heap.size w).alloc (Nat.le_refl _) (.cells #[] 21)).alloc (by simp) (.cells #[.int .i32 r] 21)))) (runeCells_one _) (by simp only [maxLen]; omega) (by omega) (below_drew1 (((Below.refl w.heap.size w).alloc (Nat.le_refl _) (.cells #[] 21)).alloc (by simp) (.cells #[.int .i32 r] 21))).size ?_
                intro v9 w9 happ
                try dsimp only
                refine hK.out _ _ ?_ (fun hHeld => ?_)
                · exact HC.out _ ((below_drew1 (((Below.refl w.heap.size w).alloc (Nat.le_refl _) (.cells #[] 21)).alloc (by simp) (.cells #[.int .i32 r] 21))).trans (happ.below (below_drew1 (((Below.refl w.heap.size w).alloc (Nat.le_refl _) (.cells #[] 21)).alloc (by simp) (.cells #[.int .i32 r] 21))).size (World.ownsRow.alloc (own_empty w 21 1 w.heap.size w.heap.size rfl (Nat.le_refl _)) (.cells #[.int .i32 r] 21))))
                clear hK K
                have HRR := Lib.hid (one_kept (w := ((w.alloc (.cells #[] 21)).alloc (.cells #[.int .i32 r] 21)).drew) HB06.out (World.ownsRow.alloc (own_empty w 21 1 w.heap.size w.heap.size rfl (Nat.le_refl _)) (.cells #[.int .i32 r] 21)) happ (by simp [Value.ownBlock]))
                have HO4 := Lib.hid (show w9.ownsRow w.heap.size 21 1 v9 k (runeCells (E.take k)) by have := happ.own; rwa [Nat.zero_add, List.nil_append] at this)
                have HB4 := Lib.hid ((below_drew1 (((Below.refl w.heap.size w).alloc (Nat.le_refl _) (.cells #[] 21)).alloc (by simp) (.cells #[.int .i32 r] 21))).trans (happ.below (below_drew1 (((Below.refl w.heap.size w).alloc (Nat.le_refl _) (.cells #[] 21)).alloc (by simp) (.cells #[.int .i32 r] 21))).size (World.ownsRow.alloc (own_empty w 21 1 w.heap.size w.heap.size rfl (Nat.le_refl _)) (.cells #[.int .i32 r] 21))))
                clear happ
                obtain ⟨Av4, cv4, rfl, _⟩ := own_form HO4.out
                refine wpTill_one (i := 7) (by kernel_rfl) rfl (fun K hK => ?_)
                refine step_append_rd _ rfl (.tmp 38) (.tmp 40) 61 rfl w.heap.size 21 i0 _ 1 4 Tryz.underlying61 hi hz0 hz1 hz2 rfl (by decide) _ _ _ rfl HO4.out _ (some ⟨w.heap.size + 1, 0, none⟩) 1 1 [.int .i32 r] rfl HRR.out H1C.out (by simp only [maxLen]; omega) (by omega) HB4.out.size ?_
                intro v9 w9 happ
                try dsimp only
                refine hK.out _ _ ?_ (fun hHeld => ?_)
                · exact HC.out _ (HB4.out.trans (happ.below HB4.out.size HO4.out))
                clear hK K
                have HO7 := Lib.hid happ.own
                have HB7 := Lib.hid (HB4.out.trans (happ.below HB4.out.size HO4.out))
                clear happ
                obtain ⟨Av7, cv7, rfl, _⟩ := own_form HO7.out
                refine wpTill_late (i := 11) (by kernel_rfl) rfl (by kernel_rfl) (fun K hK => ?_)
                refine step_append_rd _ rfl (.tmp 41) (.tmp 44) 61 rfl w.heap.size 21 i0 _ 1 4 Tryz.underlying61 hi hz0 hz1 hz2 rfl (by decide) _ _ _ rfl HO7.out _ (some ⟨b, off + k, none⟩) (n - k) (c - k) (runeCells (E.drop k)) rfl (HR2.out _ HB7.out) (runeCells_one _) (by simp only [maxLen]; omega) (by omega) HB7.out.size ?_
                intro v9 w9 happ
                obtain ⟨Av9, cv9, rfl, _⟩ := own_form happ.own
                have HO9 := Lib.hid happ.own
                have HB9 := Lib.hid (HB7.out.trans (happ.below HB7.out.size HO7.out))
                clear happ
                try dsimp only
                refine hK.out _ _ ?_
                clear hK K
                have HBW := Lib.hid (Blk.below HB.out HB9.out HB.out.lt)
                have cf := HBW.out.cell 0
                have ff := HBW.out.frozen 0
                refine wpTill_late (i := 12) (by kernel_rfl) rfl (by kernel_rfl) (fun K hK => ?_)
                go_simp
                refine hK.out _ _ ?_
                clear hK K
                refine wpTill_done (by kernel_rfl) ?_ _
                go_simp
                go_wp2_with fail
                all_goals
                  go_end0
                  exact ⟨rfl, HFIN.out _ _ HO9.out HB9.out, (But.below g HB9.out).trans (But.set _ _ _ _)⟩
            · go_simp
              refine hK.out _ _ ?_ (fun hHeld => ?_)
              · exact HC.out _ (below_drew1 ((Below.refl w.heap.size w).alloc (Below.refl w.heap.size w).size (.cells #[.int .i32 r] 21)))
              clear hK K
              refine wpTill_one (i := 0) (by kernel_rfl) rfl (fun K hK => ?_)
              go_simp
              refine hK.out _ _ ?_ (fun hHeld => ?_)
              · exact HC.out _ (below_drew1 (((Below.refl w.heap.size w).alloc (Nat.le_refl _) (.cells #[.int .i32 r] 21)).alloc ((Below.refl w.heap.size w).alloc (Nat.le_refl _) (.cells #[.int .i32 r] 21)).size (.cells #[] 21)))
              clear hK K
              refine wpTill_one (i := 4) (by kernel_rfl) rfl (fun K hK => ?_)
              refine step_append_rd _ rfl (.tmp 34) (.tmp 37) 61 rfl w.heap.size 21 i0 _ 1 4 Tryz.underlying61 hi hz0 hz1 hz2 rfl (by decide) _ _ _ rfl (own_empty (w.alloc (.cells #[.int .i32 r] 21)) 21 1 (w.heap.size + 1) w.heap.size (by simp) (by omega)) _ (some ⟨b, off, none⟩) k c (runeCells (E.take k)) rfl (HR1.out _ (below_drew1 (((Below.refl w.heap.size w).alloc (Nat.le_refl _) (.cells #[.int .i32 r] 21)).alloc (by simp) (.cells #[] 21)))) (runeCells_one _) (by simp only [maxLen]; omega) (by omega) (below_drew1 (((Below.refl w.heap.size w).alloc (Nat.le_refl _) (.cells #[.int .i32 r] 21)).alloc (by simp) (.cells #[] 21))).size ?_
              intro v9 w9 happ
              try dsimp only
              refine hK.out _ _ ?_ (fun hHeld => ?_)
              · exact HC.out _ ((below_drew1 (((Below.refl w.heap.size w).alloc (Nat.le_refl _) (.cells #[.int .i32 r] 21)).alloc (by simp) (.cells #[] 21))).trans (happ.below (below_drew1 (((Below.refl w.heap.size w).alloc (Nat.le_refl _) (.cells #[.int .i32 r] 21)).alloc (by simp) (.cells #[] 21))).size (own_empty (w.alloc (.cells #[.int .i32 r] 21)) 21 1 (w.heap.size + 1) w.heap.size (by simp) (by omega))))
              clear hK K
              have HRR := Lib.hid (one_kept (w := ((w.alloc (.cells #[.int .i32 r] 21)).alloc (.cells #[] 21)).drew) HB60.out (own_empty (w.alloc (.cells #[.int .i32 r] 21)) 21 1 (w.heap.size + 1) w.heap.size (by simp) (by omega)) happ (by simp [Value.ownBlock]))
              have HO4 := Lib.hid (show w9.ownsRow w.heap.size 21 1 v9 k (runeCells (E.take k)) by have := happ.own; rwa [Nat.zero_add, List.nil_append] at this)
              have HB4 := Lib.hid ((below_drew1 (((Below.refl w.heap.size w).alloc (Nat.le_refl _) (.cells #[.int .i32 r] 21)).alloc (by simp) (.cells #[] 21))).trans (happ.below (below_drew1 (((Below.refl w.heap.size w).alloc (Nat.le_refl _) (.cells #[.int .i32 r] 21)).alloc (by simp) (.cells #[] 21))).size (own_empty (w.alloc (.cells #[.int .i32 r] 21)) 21 1 (w.heap.size + 1) w.heap.size (by simp) (by omega))))
              clear happ
              obtain ⟨Av4, cv4, rfl, _⟩ := own_form HO4.out
              refine wpTill_one (i := 7) (by kernel_rfl) rfl (fun K hK => ?_)
              refine step_append_rd _ rfl (.tmp 38) (.tmp 40) 61 rfl w.heap.size 21 i0 _ 1 4 Tryz.underlying61 hi hz0 hz1 hz2 rfl (by decide) _ _ _ rfl HO4.out _ (some ⟨w.heap.size, 0, none⟩) 1 1 [.int .i32 r] rfl HRR.out H1C.out (by simp only [maxLen]; omega) (by omega) HB4.out.size ?_
              intro v9 w9 happ
              try dsimp only
              refine hK.out _ _ ?_ (fun hHeld => ?_)
              · exact HC.out _ (HB4.out.trans (happ.below HB4.out.size HO4.out))
              clear hK K
              have HO7 := Lib.hid happ.own
              have HB7 := Lib.hid (HB4.out.trans (happ.below HB4.out.size HO4.out))
              clear happ
              obtain ⟨Av7, cv7, rfl, _⟩ := own_form HO7.out
              refine wpTill_late (i := 11) (by kernel_rfl) rfl (by kernel_rfl) (fun K hK => ?_)
              refine step_append_rd _ rfl (.tmp 41) (.tmp 44) 61 rfl w.heap.size 21 i0 _ 1 4 Tryz.underlying61 hi hz0 hz1 hz2 rfl (by decide) _ _ _ rfl HO7.out _ (some ⟨b, off + k, none⟩) (n - k) (c - k) (runeCells (E.drop k)) rfl (HR2.out _ HB7.out) (runeCells_one _) (by simp only [maxLen]; omega) (by omega) HB7.out.size ?_
              intro v9 w9 happ
              obtain ⟨Av9, cv9, rfl, _⟩ := own_form happ.own
              have HO9 := Lib.hid happ.own
              have HB9 := Lib.hid (HB7.out.trans (happ.below HB7.out.size HO7.out))
              clear happ
              try dsimp only
              refine hK.out _ _ ?_
              clear hK K
              have HBW := Lib.hid (Blk.below HB.out HB9.out HB.out.lt)
              have cf := HBW.out.cell 0
              have ff := HBW.out.frozen 0
              refine wpTill_late (i := 12) (by kernel_rfl) rfl (by kernel_rfl) (fun K hK => ?_)
              go_simp
              refine hK.out _ _ ?_
              clear hK K
              refine wpTill_done (by kernel_rfl) ?_ _
              go_simp
              go_wp2_with fail
              all_goals
                go_end0
                exact ⟨rfl, HFIN.out _ _ HO9.out HB9.out, (But.below g HB9.out).trans (But.set _ _ _ _)⟩

end Go.Proofs.YthnhbcohfoodlaaGreatDoor

/- The walk of scriptref2.Edges. -/
namespace Go.Proofs.YthnhbcohfoodlaaGreatDoor
open Go.RowKit

theorem put_st {lo g : Nat} {E : List Int} (r : Int) {w : World} (h : EdgeSt lo g E w) (hE : E.Pairwise (· < ·)) (h0 : E ≠ []) (hl : E.length ≤ 1000000) (hlo : lo ≤ w.heap.size) :
    Calls Tryz.prog 163 (#[.int .i32 r] ++ #[.pointer (some ⟨g, 0, none⟩)]) w fun e w' => e = .returned (.tuple #[]) ∧ EdgeSt lo g (putP E r) w' ∧ But w g w' := by
  obtain ⟨A, n, c, h1, h2, h3⟩ := h
  have hlen : E.length = n := by have := h2.1; rw [runeCells_length] at this; omega
  have hpos : 0 < n := by rw [← hlen]; exact List.length_pos_iff.2 h0
  obtain ⟨b, off, rfl, hb, hbl, _⟩ := h2.2 hpos
  exact put_edge lo g b off n c E r w hE hlo h1 h2 hbl hb (by omega) h3
theorem EdgeSt.below {lo g : Nat} {E : List Int} {w w' : World} (h : EdgeSt lo g E w) (hb : Below w.heap.size w w') : EdgeSt lo g E w' := by
  obtain ⟨A, n, c, h1, h2, h3⟩ := h
  exact ⟨A, n, c, Blk.below h1 hb h1.lt, h2.keep (Keeps.any hb), h3⟩
theorem putP_ne {E : List Int} (r : Int) (h : E ≠ []) : putP E r ≠ [] := by
  have := (putP_len E r).1
  have h2 := List.length_pos_iff.2 h
  exact List.length_pos_iff.1 (by omega)
/-- The state of the walk: the edges so far, E, and what is still to come, xs. -/
structure EgAt (w : World) (L : List Spans) (b : Nat) (xs : List Int) (wr : World) : Prop where
  ex : ∃ E : List Int, EdgeSt w.heap.size (w.heap.size + 1) E wr ∧ E.Pairwise (· < ·) ∧ E ≠ [] ∧ E.length ≤ b ∧ edgesAll L = xs.foldl putP E
  below : Below w.heap.size w wr
theorem EgAt.next {w wr : World} {L : List Spans} {b : Nat} {x : Int} {xs : List Int} (h : EgAt w L b (x :: xs) wr) (hb : b ≤ 1000000) :
    Calls Tryz.prog 163 (#[.int .i32 x] ++ #[.pointer (some ⟨w.heap.size + 1, 0, none⟩)]) wr fun e w' => e = .returned (.tuple #[]) ∧ EgAt w L (b + 1) xs w' ∧ But wr (w.heap.size + 1) w' := by
  obtain ⟨⟨E, h1, h2, h3, h4, h5⟩, h6⟩ := h
  refine (put_st x h1 h2 h3 (by omega) h6.size).mono ?_
  rintro e w' ⟨rfl, h7, h8⟩
  refine ⟨rfl, ⟨⟨putP E x, h7, putP_rise h2 x, putP_ne x h3, by have := (putP_len E x).2; omega, h5⟩, ?_⟩, h8⟩
  exact h6.trans (h8.to h6.size (by omega))
theorem EgAt.alloc {w wr : World} {L : List Spans} {b : Nat} {xs : List Int} (h : EgAt w L b xs wr) (o : Obj) : EgAt w L b xs (wr.alloc o) := by
  obtain ⟨⟨E, h1, h2, h3, h4, h5⟩, h6⟩ := h
  exact ⟨⟨E, h1.below ((Below.refl _ _).alloc (Nat.le_refl _) o), h2, h3, h4, h5⟩, h6.alloc h6.size o⟩

theorem EgAt.lt {w wr : World} {L : List Spans} {b : Nat} {xs : List Int} (h : EgAt w L b xs wr) : w.heap.size + 1 < wr.heap.size := by
  obtain ⟨⟨E, ⟨A, n, c, h1, _⟩, _⟩, _⟩ := h
  exact h1.lt
theorem EgAt.cell {w wr : World} {L : List Spans} {b : Nat} (h : EgAt w L b [] wr) : ∃ A n c, Blk wr (w.heap.size + 1) 61 #[.slice A n c] ∧ RdX wr (fun b => w.heap.size ≤ b) 1 A n (runeCells (edgesAll L)) := by
  obtain ⟨⟨E, ⟨A, n, c, h1, h2, _⟩, _, _, _, h5⟩, _⟩ := h
  rw [h5]
  exact ⟨A, n, c, h1, h2.keep (Keeps.refl (fun _ h => h.2))⟩

def EoRel (w : World) (L : List Spans) (n : Nat) (i : Value) (wr : World) : Prop :=
  ∃ j : Nat, j ≤ n ∧ i = .int .i64 j ∧ EgAt w L (1 + 400 * j) ((L.drop j).flatMap edgesS) wr
def EiRel (w : World) (L : List Spans) (s : Spans) (j n : Nat) (i : Value) (wr : World) : Prop :=
  ∃ k : Nat, k ≤ n ∧ i = .int .i64 k ∧ EgAt w L (1 + 400 * j + 2 * k) (edgesS (s.drop k) ++ (L.drop (j + 1)).flatMap edgesS) wr

set_option maxRecDepth 100000 in
set_option maxHeartbeats 1600000 in
theorem ref_edges (X : Nat → Prop) (L : List Spans) (A : Option Addr) (n c : Nat) (w : World) (hn : n ≤ 200) (hS : ∀ s ∈ L, RightSet s) (hL : ListX (SetC w X) w X 1 A n L) :
    Calls Tryz.prog 134 #[.slice A n c] w fun e w' => (∃ A' n' c', e = .returned (.slice A' n' c') ∧ RdX w' (fun b => w.heap.size ≤ b) 1 A' n' (runeCells (edgesAll L))) ∧ Below w.heap.size w w' := by
  have HLEN := Lib.hid (show L.length = n from hL.len)
  have HL := Lib.hid hL
  have HS := Lib.hid hS
  have H0 := Lib.hid (show EgAt w L (1 + 400 * 0) ((L.drop 0).flatMap edgesS) ((w.alloc (.cells #[.int .i32 0] 21)).alloc (.cells #[.slice (some ⟨w.heap.size, 0, none⟩) 1 1] 61)) by
    refine ⟨⟨[0], ⟨some ⟨w.heap.size, 0, none⟩, 1, 1, ?_, ?_, Nat.le_refl _⟩, by simp, by simp, by simp, rfl⟩, ((Below.refl _ _).alloc (Nat.le_refl _) _).alloc (by simp) _⟩
    · have := Blk.new (w.alloc (.cells #[.int .i32 0] 21)) 61 #[.slice (some ⟨w.heap.size, 0, none⟩) 1 1]
      simpa using this
    · have h1 := RdX.new (w := w) (X := fun b => b ≠ w.heap.size + 1 ∧ w.heap.size ≤ b) (sz := 1) (n := 1) 21 [.int .i32 0] rfl ⟨by omega, Nat.le_refl _⟩
      exact h1.keep (Keeps.any ((Below.refl _ _).alloc (Nat.le_refl _) _)))
  clear hL hS
  go_enter Tryz.func134, Tryz.ntmps134
  go_wp2_with fail
  go_loopw [13] (EoRel w L n) (fun i _ => n - (intOf i).toNat)
  case atStart => exact ⟨0, Nat.zero_le _, rfl, H0.out⟩
  case round =>
    obtain ⟨j, hj, rfl, hst⟩ := hrel
    have HST := Lib.hid hst
    by_cases hlt : j < n
    · obtain ⟨s, hs⟩ : ∃ z, L[j]? = some z := ⟨_, List.getElem?_eq_getElem (by rw [HLEN.out]; exact hlt)⟩
      obtain ⟨b, off, A', n', c', rfl, _, hbb, hcx0, hrd, _, hnn⟩ := sets_at HL.out hs
      have hcx := (hst.below.cell (p := ⟨b, off + j, none⟩) hbb).trans hcx0
      have HR := Lib.hid (HS.out s (List.mem_of_getElem? hs))
      have HSN := Lib.hid (show s.length = n' from hrd.len)
      have hn' : n' ≤ 200 := by rw [← HSN.out]; exact HR.out.size
      have HRD := Lib.hid hrd
      have HI := Lib.hid (show EgAt w L (1 + 400 * j + 2 * 0) (edgesS (s.drop 0) ++ (L.drop (j + 1)).flatMap edgesS) wr by
        have := HST.out
        rw [drop_at hs, List.flatMap_cons] at this
        exact this)
      clear hs hrd hst HST hcx0
      go_wp2_with fail
      go_loopw [19] (EiRel w L s j n') (fun i _ => n' - (intOf i).toNat)
      case atStart => exact ⟨0, Nat.zero_le _, rfl, HI.out⟩
      case round =>
        obtain ⟨k, hk, rfl, hst⟩ := hrel
        by_cases hk2 : k < n'
        · obtain ⟨⟨x, y⟩, hx⟩ : ∃ z, s[k]? = some z := ⟨_, List.getElem?_eq_getElem (by rw [HSN.out]; exact hk2)⟩
          obtain ⟨b2, off2, rfl, hb2, c0, c1⟩ := HRD.out.at hx
          have d0 := (hst.below.cell (p := ⟨b2, off2 + k * 2, none⟩) hb2).trans c0
          have d1 := (hst.below.cell (p := ⟨b2, off2 + k * 2 + 1, none⟩) hb2).trans c1
          have hxy := HR.out.each (x, y) (List.mem_of_getElem? hx)
          simp only at hxy
          rw [drop_at hx, show edgesS ((x, y) :: s.drop (k + 1)) = x :: (y + 1) :: edgesS (s.drop (k + 1)) from rfl] at hst
          have hgl := hst.lt
          have HST := Lib.hid (hst.alloc (.cells #[.int .i32 x, .int .i32 y] 74))
          have HBX := Lib.hid (Blk.new wr 74 #[.int .i32 x, .int .i32 y])
          clear hx c0 c1 hst
          go_wp2_with fail
          refine (HST.out.next (by omega)).mono ?_
          rintro e w1 ⟨rfl, hst1, hbut⟩
          have hb1 : Blk w1 wr.heap.size 74 #[.int .i32 x, .int .i32 y] := (hbut.2.2.2.2 _ HBX.out.lt (by omega)).trans HBX.out
          have e1 : w1.cell? ⟨wr.heap.size, 1, none⟩ = some (.int .i32 y) := hb1.cell 1
          have HST1 := Lib.hid hst1
          clear hst1 hbut hb1
          go_wp2_with fail
          refine (HST1.out.next (by omega)).mono ?_
          rintro e w2 ⟨rfl, hst2, _⟩
          have HST2 := Lib.hid (show EgAt w L (1 + 400 * j + 2 * (k + 1)) (edgesS (s.drop (k + 1)) ++ (L.drop (j + 1)).flatMap edgesS) w2 from hst2)
          clear hst2
          go_wp2_with fail
          exact ⟨⟨k + 1, by omega, by go_num, HST2.out⟩, by simp [intOf]; omega⟩
        · obtain rfl : k = n' := by omega
          have HST := Lib.hid (show EgAt w L (1 + 400 * (j + 1)) ((L.drop (j + 1)).flatMap edgesS) wr by
            obtain ⟨⟨E, h1, h2, h3, h4, h5⟩, h6⟩ := hst
            rw [List.drop_of_length_le (by rw [HSN.out]; exact Nat.le_refl _)] at h5
            exact ⟨⟨E, h1, h2, h3, by omega, h5⟩, h6⟩)
          clear hst
          go_wp2_with fail
          exact ⟨⟨j + 1, by omega, by go_num, HST.out⟩, by simp [intOf]; omega⟩
    · obtain rfl : j = n := by omega
      rw [List.drop_of_length_le (by rw [HLEN.out]; exact Nat.le_refl _)] at hst
      obtain ⟨A', n', c', h1, h2⟩ := hst.cell
      have d0 : wr.cell? ⟨w.heap.size + 1, 0, none⟩ = some (.slice A' n' c') := h1.cell 0
      have HB := Lib.hid hst.below
      have H2 := Lib.hid h2
      clear h1 h2 hst HST
      go_wp2_with fail
      go_ret
      exact ⟨⟨A', n', c', rfl, H2.out⟩, HB.out⟩

end Go.Proofs.YthnhbcohfoodlaaGreatDoor
