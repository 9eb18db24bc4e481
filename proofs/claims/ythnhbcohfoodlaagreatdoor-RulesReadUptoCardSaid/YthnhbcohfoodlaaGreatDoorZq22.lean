/- EdgesBoth -/
import Derived.Test.YthnhbcohfoodlaaGreatDoorZq7
import Derived.Test.YthnhbcohfoodlaaGreatDoorZq13
import Derived.Deep.DeepCutAuto
import Derived.Deep.CutBlock
import Derived.Test.YthnhbcohfoodlaaGreatDoorZq1
set_option maxHeartbeats 1600000
set_option maxRecDepth 100000
namespace Go.Proofs.YthnhbcohfoodlaaGreatDoor
open Go.RowKit
def lp (lo g : Nat) (E : List Int) (w : World) : Prop := ∃ (A : Option Addr) (n c : Nat), aM w g 61 #[.slice A n c] ∧ di w (fun b => b ≠ g ∧ lo ≤ b) 1 A n (ax E) ∧ n ≤ c
def aF (w : World) (g : Nat) (w' : World) : Prop := w.heap.size ≤ w'.heap.size ∧ w'.os = w.os ∧ w'.tape = w.tape ∧ w'.output = w.output ∧ ∀ k, k < w.heap.size → k ≠ g → w'.heap[k]? = w.heap[k]?
theorem aF.refl (w : World) (g : Nat) : aF w g w := ⟨Nat.le_refl _, rfl, rfl, rfl, fun _ _ _ => rfl⟩
theorem aF.trans {w w1 w2 : World} {g : Nat} (h : aF w g w1) (h2 : aF w1 g w2) : aF w g w2 :=
  ⟨Nat.le_trans h.1 h2.1, h2.2.1.trans h.2.1, h2.2.2.1.trans h.2.2.1, h2.2.2.2.1.trans h.2.2.2.1, fun k hk hne => (h2.2.2.2.2 k (Nat.lt_of_lt_of_le hk h.1) hne).trans (h.2.2.2.2 k hk hne)⟩
theorem aF.below {w w1 : World} (g : Nat) (h : Below w.heap.size w w1) : aF w g w1 := ⟨h.size, h.os, h.tape, h.output, fun k hk _ => h.block k hk⟩
theorem aF.set (w : World) (g i : Nat) (u : Value) : aF w g (w.setCell ⟨g, i, none⟩ u) := ⟨by simp, rfl, rfl, rfl, fun k _ hne => Below.heap_setCell _ _ _ _ hne⟩
theorem aF.to {w w1 : World} {g B : Nat} (h : aF w g w1) (hB : B ≤ w.heap.size) (hg : B ≤ g) : Below B w w1 := ⟨h.2.1, h.2.2.1, h.2.2.2.1, h.1, fun k hk => h.2.2.2.2 k (by omega) (by omega)⟩
theorem aF.drewN (w : World) (C k : Nat) : aF w C (w.drewN k) := aF.below C (below_drewN (Below.refl _ _) k)
theorem aF.keeps {w w1 : World} {g : Nat} {X X' : Nat → Prop} (h : aF w g w1) (hX : ∀ b, X b → b ≠ g) (h2 : ∀ b, X b → b < w.heap.size → X' b) : aC w X w1 X' :=
  fun b hb hl => ⟨h.2.2.2.2 b hl (hX b hb), h2 b hb hl, Nat.lt_of_lt_of_le hl h.1⟩
theorem Bs {w : World} {X : Nat → Prop} {b off n : Nat} {E : List Int} (h : di w X 1 (some ⟨b, off, none⟩) n (ax E)) (hb : b < w.heap.size) {k : Nat} (hk : k ≤ n) :
    Rd w w.heap.size 1 (some ⟨b, off, none⟩) k (ax (E.take k)) ∧ Rd w w.heap.size 1 (some ⟨b, off + k, none⟩) (n - k) (ax (E.drop k)) := by
 have hl : E.length = n := (by have := h.1; rw [bt] at this; omega);refine ⟨⟨by rw [bt, List.length_take]; omega, fun h0 => ⟨b, off, rfl, hb, fun j u hu => ?_⟩⟩, ⟨by rw [bt, List.length_drop]; omega, fun h0 => ⟨b, off + k, rfl, hb, fun j u hu => ?_⟩⟩⟩
 ·obtain ⟨b', off', e, _, _, hc⟩ := h.2 (by omega);cases e;rw [bO, List.getElem?_take] at hu;by_cases hj : j < k
  ·rw [if_pos hj] at hu;exact hc j u (by rw [bO]; exact hu)
  rw [if_neg hj] at hu; cases hu
 obtain ⟨b', off', e, _, _, hc⟩ := h.2 (by omega);cases e;rw [bO, List.getElem?_drop] at hu;rw [Nat.add_assoc];exact hc (k + j) u (by rw [bO]; exact hu)
theorem Dz {E : List Int} {r : Int} {k : Nat} (h1 : ∀ t x, t < k → E[t]? = some x → x < r) (h2 : ∀ x, E[k]? = some x → r ≤ x) : E.takeWhile (fun x => decide (x < r)) = E.take k ∧ E.dropWhile (fun x => decide (x < r)) = E.drop k := by
 induction E generalizing k with
 | nil => simp
 | cons a E ih =>
  cases k with
  | zero =>
   have := h2 a rfl;rw [List.takeWhile_cons, List.dropWhile_cons, if_neg (by simp; omega), if_neg (by simp; omega)];exact ⟨rfl, rfl⟩
  | succ k =>
   have := h1 0 a (by omega) rfl;rw [List.takeWhile_cons, List.dropWhile_cons, if_pos (by simpa using this), if_pos (by simpa using this)];obtain ⟨g1, g2⟩ := ih (k := k) (fun t x ht hx => h1 (t + 1) x (by omega) (by simpa using hx)) (fun x hx => h2 x (by simpa using hx));rw [g1, g2];exact ⟨rfl, rfl⟩
theorem vq (w : World) (B sz : Nat) (A : Option Addr) : Rd w B sz A 0 [] := ⟨by simp, fun h => absurd h (Nat.lt_irrefl 0)⟩
theorem oz {w w' : World} {g base sz n : Nat} {t e : TypeId} {u v v' : Value} {xs ys : List Value} {m : Nat} (h : aM w g t #[u]) (_ : w.ownsRow base e sz v m ys) (ha : b9 base e sz v w n xs v' w') (hne : v.ownBlock ≠ some g) : Rd w' w'.heap.size 1 (some ⟨g, 0, none⟩) 1 [u] := by
 have hb := ha.2.1.block g h.lt (fun e => hne e.symm);refine ⟨rfl, fun _ => ⟨g, 0, rfl, Nat.lt_of_lt_of_le h.lt ha.2.1.size, fun j x hx => ?_⟩⟩;have h2 : aM w' g t #[u] := hb.trans h;rw [h2.cell, Nat.zero_add];simpa using hx
def FT (w : World) (E : List Int) (r : Int) (n : Nat) (s : Value) (wr : World) : Prop :=
  ∃ k : Nat, k ≤ n ∧ s = .int .i64 k ∧ w = wr ∧ ∀ t x, t < k → E[t]? = some x → x < r
theorem DB (lo g b off n c : Nat) (E : List Int) (r : Int) (w : World) (hE : E.Pairwise (· < ·)) (_ : lo ≤ w.heap.size) (hB : aM w g 61 #[.slice (some ⟨b, off, none⟩) n c]) (hX : di w (fun x => x ≠ g ∧ lo ≤ x) 1 (some ⟨b, off, none⟩) n (ax E)) (eG : b < w.heap.size) (U4 : b ≠ g ∧ lo ≤ b) (hn : n ≤ 1000000) (hnc : n ≤ c) :
    Calls Tryz.prog 163 (#[.int .i32 r] ++ #[.pointer (some ⟨g, 0, none⟩)]) w fun e w' => e = .returned (.tuple #[]) ∧ lp lo g (iL E r) w' ∧ aF w g w' := by
  obtain ⟨i0, hi, ql, kR, kM⟩ := info_parts Tryz.info21
  have hlen : E.length = n := by have := hX.1; rw [bt] at this; omega
  have c0 : w.cell? ⟨g, 0, none⟩ = some (.slice (some ⟨b, off, none⟩) n c) := hB.cell 0
  have f0 := hB.frozen 0
  have HE := Lib.hid hE
  have HB := Lib.hid hB
  have HX := Lib.hid hX
  have cn := Lib.hid hlen
  have Ap := Lib.hid (fun (k : Nat) (x : Int) (h : E[k]? = some x) => show w.cell? ⟨b, off + k, none⟩ = some (.int .i32 x) by
    have hk := (List.getElem?_eq_some_iff.1 h).1
    obtain ⟨b', off', e, _, _, hc⟩ := hX.2 (by omega)
    cases e
    exact hc k _ (by rw [bO, h]; rfl))
  clear hE hB hX hlen
  go_enter Tryz.func163, Tryz.ntmps163
  go_wp2_with fail
  go_loopw [3] (FT w E r n) (fun i _ => n - (intOf i).toNat)
  case atStart => exact ⟨0, Nat.zero_le _, rfl, rfl, fun t x ht => absurd ht (Nat.not_lt_zero _)⟩
  case round =>
    obtain ⟨k, hk, rfl, rfl, vu⟩ := hrel
    have HL := Lib.hid vu
    clear vu
    by_cases bz : ∃ x, E[k]? = some x ∧ x < r
    · obtain ⟨x, hx, Lk⟩ := bz
      have hlt : k < n := by rw [← cn.out]; exact (List.getElem?_eq_some_iff.1 hx).1
      have hc := Ap.out k x hx
      have hd : decide (x < r) = true := decide_eq_true Lk
      have HS := Lib.hid (fun t y (ht : t < k + 1) (hy : E[t]? = some y) => show y < r by
        rcases Nat.lt_or_ge t k with h | h
        · exact HL.out t y h hy
        · obtain rfl : t = k := by omega
          rw [hx] at hy; cases hy; exact Lk)
      clear hx
      go_wp2_with fail
      exact ⟨⟨k + 1, by omega, by go_num, rfl, HS.out⟩, by simp [intOf]; omega⟩
    · have pW := Lib.hid (Dz HL.out (fun y hy => by
        rcases Int.lt_or_le y r with h | h
        · exact absurd ⟨y, hy, h⟩ bz
        · exact h))
      have uw : k = n ∨ ∃ x, E[k]? = some x ∧ ¬ x < r := by
        rcases Nat.lt_or_ge k n with h | h
        · obtain ⟨x, hx⟩ : ∃ z, E[k]? = some z := ⟨_, List.getElem?_eq_getElem (by rw [cn.out]; exact h)⟩
          exact .inr ⟨x, hx, fun h2 => bz ⟨x, hx, h2⟩⟩
        · exact .inl (by omega)
      clear bz
      by_cases vD : 1114111 < r
      · have HP := Lib.hid (show iL E r = E by unfold iL; rw [if_pos (.inl vD)])
        rcases uw with rfl | ⟨x, hx, Lk⟩
        · go_wp2_with fail
          (try simp only [Exit.inBlock, Exit.then])
          refine bodyPost_ret (results_none rfl _ _ _) rfl ?_
          exact ⟨rfl, by rw [HP.out]; exact ⟨_, _, _, HB.out, HX.out, hnc⟩, aF.refl _ _⟩
        · have hlt : k < n := by rw [← cn.out]; exact (List.getElem?_eq_some_iff.1 hx).1
          have hc := Ap.out k x hx
          clear hx
          go_wp2_with fail
          (try simp only [Exit.inBlock, Exit.then])
          refine bodyPost_ret (results_none rfl _ _ _) rfl ?_
          exact ⟨rfl, by rw [HP.out]; exact ⟨_, _, _, HB.out, HX.out, hnc⟩, aF.refl _ _⟩
      · by_cases heq : E[k]? = some r
        · have HP := Lib.hid (show iL E r = E by unfold iL; rw [if_pos (.inr (List.mem_of_getElem? heq))])
          have hlt : k < n := by rw [← cn.out]; exact (List.getElem?_eq_some_iff.1 heq).1
          have hc := Ap.out k r heq
          clear heq uw
          go_wp2_with fail
          (try simp only [Exit.inBlock, Exit.then])
          refine bodyPost_ret (results_none rfl _ _ _) rfl ?_
          exact ⟨rfl, by rw [HP.out]; exact ⟨_, _, _, HB.out, HX.out, hnc⟩, aF.refl _ _⟩
        · have HP := Lib.hid (show iL E r = E.take k ++ r :: E.drop k by
            unfold iL
            rw [if_neg, pW.out.1, pW.out.2]
            rw [not_or]
            refine ⟨vD, fun hm => ?_⟩
            obtain ⟨i, hi⟩ := List.mem_iff_getElem?.1 hm
            rcases Nat.lt_trichotomy i k with h | rfl | h
            · have := HL.out i r h hi; omega
            · exact heq hi
            · rcases uw with rfl | ⟨x, hx, Lk⟩
              · have := (List.getElem?_eq_some_iff.1 hi).1
                rw [cn.out] at this
                omega
              · have := lW HE.out hx hi h
                omega)
          have HR := Lib.hid (Bs HX.out eG hk)
          have fX := Lib.hid (fun (W : World) (hw : Below w.heap.size w W) => Rd.below HR.out.1 hw)
          have kN := Lib.hid (fun (W : World) (hw : Below w.heap.size w W) => Rd.below HR.out.2 hw)
          have HC := Lib.hid (fun (W : World) (hw : Below w.heap.size w W) => (aM.below HB.out hw HB.out.lt).cell 0)
          have Kw := Lib.hid (show ∀ u ∈ [Value.int .i32 r], u.oneCell' = true by intro x hx; simp at hx; subst hx; rfl)
          have M3 := Lib.hid (show aM ((w.alloc (.cells #[] 21)).alloc (.cells #[.int .i32 r] 21)) (w.heap.size + 1) 21 #[.int .i32 r] by
            have := aM.new (w.alloc (.cells #[] 21)) 21 #[.int .i32 r]
            simpa using this)
          have Nr := Lib.hid (aM.alloc (aM.new w 21 #[.int .i32 r]) (.cells #[] 21))
          have Ac := Lib.hid (fun (v : Value) (W : World) (ho : W.ownsRow w.heap.size 21 1 v (k + 1 + (n - k)) (ax (E.take k) ++ [.int .i32 r] ++ ax (E.drop k))) (hw : Below w.heap.size w W) => show lp lo g (iL E r) (W.setCell ⟨g, 0, none⟩ v) by
            obtain ⟨A, cc, rfl, vZ⟩ := aP ho
            refine ⟨A, _, cc, aM.put (aM.below HB.out hw HB.out.lt) 0 _, ?_, vZ⟩
            rw [HP.out, show ax (E.take k ++ r :: E.drop k) = ax (E.take k) ++ [.int .i32 r] ++ ax (E.drop k) by simp [ax]]
            have hlt := HB.out.lt
            refine (di.fk (X := fun x => x ≠ g ∧ lo ≤ x) ho (fun x hx => ?_)).keep ((aF.set W g 0 _).keeps (fun _ h => h.1) (fun _ h _ => h))
            have := (eB ho hx).1
            exact ⟨by omega, by omega⟩)
          -- REGION
          rcases uw with rfl | ⟨x, hx, Lk⟩
          · have P6 := Lib.hid (show ax (E.drop k) = [] by rw [List.drop_of_length_le (by rw [cn.out]; exact Nat.le_refl _)]; rfl)
            rw [Nat.sub_self] at Ac
            clear heq
            go_upto_region 4 with fail
            refine aD (S := fun w' => w'.cell? ⟨g, 0, none⟩ = some (.slice (some ⟨b, off, none⟩) k c)) [1, 8] (by kernel_rfl) c0 (fun bf => ?_)
            refine aa (i := 2) (v := ?_) rfl (by kernel_rfl) (by kernel_rfl) (by kernel_rfl) (fun _ _ _ h => h) (Or.inl ⟨by rfl, ?_⟩) ?_
            rotate_left 1
            · intro w _
              go_simp
              try with_reducible rfl
            try simp only [Act.put]
            refine aa (i := 5) (v := ?_) rfl (by kernel_rfl) (by kernel_rfl) (by kernel_rfl) (fun _ _ _ h => h) (Or.inl ⟨by rfl, ?_⟩) ?_
            rotate_left 1
            · intro w _
              go_simp
              try with_reducible rfl
            try simp only [Act.put]
            refine aa (i := 9) (v := ?_) rfl (by kernel_rfl) (by kernel_rfl) (by kernel_rfl) (fun _ _ _ h => h) (Or.inl ⟨by rfl, ?_⟩) ?_
            rotate_left 1
            · intro w _
              go_simp
              try with_reducible rfl
            try simp only [Act.put]
            refine ai (i := 1) (v := ?_) rfl (by kernel_rfl) (by kernel_rfl) (by kernel_rfl) (by kernel_rfl) (by kernel_rfl) (fun _ _ _ h => h) (Or.inl ⟨by rfl, ?_⟩) (by assumption) ?_
            rotate_left 1
            · intro w bS
              (try dsimp only at bS)
              go_simp
              try with_reducible rfl
            try simp only [Act.put]
            refine aa (i := 3) (v := ?_) rfl (by kernel_rfl) (by kernel_rfl) (by kernel_rfl) (fun _ _ _ h => h) (Or.inl ⟨by rfl, ?_⟩) ?_
            rotate_left 1
            · intro w _
              go_simp
              try with_reducible rfl
            try simp only [Act.put]
            refine ai (i := 8) (v := ?_) rfl (by kernel_rfl) (by kernel_rfl) (by kernel_rfl) (by kernel_rfl) (by kernel_rfl) (fun _ _ _ h => h) (Or.inl ⟨by rfl, ?_⟩) (by assumption) ?_
            rotate_left 1
            · intro w bS
              (try dsimp only at bS)
              go_simp
              try with_reducible rfl
            try simp only [Act.put]
            refine aa (i := 10) (v := ?_) rfl (by kernel_rfl) (by kernel_rfl) (by kernel_rfl) (fun _ _ _ h => h) (Or.inl ⟨by rfl, ?_⟩) ?_
            rotate_left 1
            · intro w _
              go_simp
              try with_reducible rfl
            try simp only [Act.put]
            refine ef (i := 0) (j := 6) (by kernel_rfl) rfl rfl (fun K hK => ?_) (fun K hK => ?_)
            · go_simp
              refine hK.out _ _ ?_ (fun bf => ?_)
              · exact HC.out _ (ah ((Below.refl w.heap.size w).alloc (Below.refl w.heap.size w).size (.cells #[] 21)))
              clear hK K
              refine ef (i := 4) (j := 6) (by kernel_rfl) rfl rfl (fun K hK => ?_) (fun K hK => ?_)
              · refine aL _ rfl (.tmp 34) (.tmp 37) 61 rfl w.heap.size 21 i0 _ 1 4 Tryz.underlying61 hi ql kR kM rfl (by decide) _ _ _ rfl (bH w 21 1 w.heap.size w.heap.size rfl (Nat.le_refl _)) _ (some ⟨b, off, none⟩) k c (ax (E.take k)) rfl (fX.out _ (ah ((Below.refl w.heap.size w).alloc (Nat.le_refl _) (.cells #[] 21)))) (cR _) (by simp only [maxLen]; omega) (by omega) (ah ((Below.refl w.heap.size w).alloc (Nat.le_refl _) (.cells #[] 21))).size ?_
                intro v9 w9 an
                try dsimp only
                refine hK.out _ _ ?_ (fun bf => ?_)
                · exact HC.out _ ((ah ((Below.refl w.heap.size w).alloc (Nat.le_refl _) (.cells #[] 21))).trans (an.below (ah ((Below.refl w.heap.size w).alloc (Nat.le_refl _) (.cells #[] 21))).size (bH w 21 1 w.heap.size w.heap.size rfl (Nat.le_refl _))))
                clear hK K
                have hU := Lib.hid (show w9.ownsRow w.heap.size 21 1 v9 k (ax (E.take k)) by have := an.own; rwa [Nat.zero_add, List.nil_append] at this)
                have cG := Lib.hid ((ah ((Below.refl w.heap.size w).alloc (Nat.le_refl _) (.cells #[] 21))).trans (an.below (ah ((Below.refl w.heap.size w).alloc (Nat.le_refl _) (.cells #[] 21))).size (bH w 21 1 w.heap.size w.heap.size rfl (Nat.le_refl _))))
                clear an
                obtain ⟨Ml, LG, rfl, _⟩ := aP hU.out
                refine aA (i := 6) (by kernel_rfl) rfl (fun K hK => ?_)
                go_simp
                refine hK.out _ _ ?_ (fun bf => ?_)
                · exact HC.out _ (cG.out.alloc cG.out.size (.cells #[.int .i32 r] 21))
                clear hK K
                refine aA (i := 7) (by kernel_rfl) rfl (fun K hK => ?_)
                refine aL _ rfl (.tmp 38) (.tmp 40) 61 rfl w.heap.size 21 i0 _ 1 4 Tryz.underlying61 hi ql kR kM rfl (by decide) _ _ _ rfl (World.ownsRow.alloc hU.out (.cells #[.int .i32 r] 21)) _ (some ⟨w9.heap.size, 0, none⟩) 1 1 [.int .i32 r] rfl (Rd.new w9 21 1 1 [.int .i32 r] rfl) Kw.out (by simp only [maxLen]; omega) (by omega) (cG.out.alloc cG.out.size (.cells #[.int .i32 r] 21)).size ?_
                intro v9 w9 an
                try dsimp only
                refine hK.out _ _ ?_ (fun bf => ?_)
                · exact HC.out _ ((cG.out.alloc cG.out.size (.cells #[.int .i32 r] 21)).trans (an.below (cG.out.alloc cG.out.size (.cells #[.int .i32 r] 21)).size (World.ownsRow.alloc hU.out (.cells #[.int .i32 r] 21))))
                clear hK K
                have jS := Lib.hid an.own
                have er := Lib.hid ((cG.out.alloc cG.out.size (.cells #[.int .i32 r] 21)).trans (an.below (cG.out.alloc cG.out.size (.cells #[.int .i32 r] 21)).size (World.ownsRow.alloc hU.out (.cells #[.int .i32 r] 21))))
                clear an
                obtain ⟨M8, MQ, rfl, _⟩ := aP jS.out
                refine az (i := 11) (by kernel_rfl) rfl (by kernel_rfl) (fun K hK => ?_)
                refine aL _ rfl (.tmp 41) (.tmp 44) 61 rfl w.heap.size 21 i0 _ 1 4 Tryz.underlying61 hi ql kR kM rfl (by decide) _ _ _ rfl jS.out w9.heap.size _ 0 (c - k) [] rfl (vq _ _ _ _) (by simp) (by simp only [maxLen]; omega) (by omega) er.out.size ?_
                intro v9 w9 an
                obtain ⟨MY, Mu, rfl, _⟩ := aP an.own
                have fe := Lib.hid an.own
                have cE := Lib.hid (er.out.trans (an.below er.out.size jS.out))
                clear an
                try dsimp only
                refine hK.out _ _ ?_
                clear hK K
                have fl := Lib.hid (aM.below HB.out cE.out HB.out.lt)
                have cf := fl.out.cell 0
                have ff := fl.out.frozen 0
                refine az (i := 12) (by kernel_rfl) rfl (by kernel_rfl) (fun K hK => ?_)
                go_simp
                refine hK.out _ _ ?_
                clear hK K
                refine aN (by kernel_rfl) ?_ _
                go_simp
                go_wp2_with fail
                all_goals
                  go_end0
                  exact ⟨rfl, Ac.out _ _ (by have := fe.out; rw [P6.out]; exact this) cE.out, (aF.below g cE.out).trans (aF.set _ _ _ _)⟩
              · go_simp
                refine hK.out _ _ ?_ (fun bf => ?_)
                · exact HC.out _ (ah (((Below.refl w.heap.size w).alloc (Nat.le_refl _) (.cells #[] 21)).alloc ((Below.refl w.heap.size w).alloc (Nat.le_refl _) (.cells #[] 21)).size (.cells #[.int .i32 r] 21)))
                clear hK K
                refine aA (i := 4) (by kernel_rfl) rfl (fun K hK => ?_)
                refine aL _ rfl (.tmp 34) (.tmp 37) 61 rfl w.heap.size 21 i0 _ 1 4 Tryz.underlying61 hi ql kR kM rfl (by decide) _ _ _ rfl (World.ownsRow.alloc (bH w 21 1 w.heap.size w.heap.size rfl (Nat.le_refl _)) (.cells #[.int .i32 r] 21)) _ (some ⟨b, off, none⟩) k c (ax (E.take k)) rfl (fX.out _ (ah (((Below.refl w.heap.size w).alloc (Nat.le_refl _) (.cells #[] 21)).alloc (by simp) (.cells #[.int .i32 r] 21)))) (cR _) (by simp only [maxLen]; omega) (by omega) (ah (((Below.refl w.heap.size w).alloc (Nat.le_refl _) (.cells #[] 21)).alloc (by simp) (.cells #[.int .i32 r] 21))).size ?_
                intro v9 w9 an
                try dsimp only
                refine hK.out _ _ ?_ (fun bf => ?_)
                · exact HC.out _ ((ah (((Below.refl w.heap.size w).alloc (Nat.le_refl _) (.cells #[] 21)).alloc (by simp) (.cells #[.int .i32 r] 21))).trans (an.below (ah (((Below.refl w.heap.size w).alloc (Nat.le_refl _) (.cells #[] 21)).alloc (by simp) (.cells #[.int .i32 r] 21))).size (World.ownsRow.alloc (bH w 21 1 w.heap.size w.heap.size rfl (Nat.le_refl _)) (.cells #[.int .i32 r] 21))))
                clear hK K
                have mR := Lib.hid (oz (w := ((w.alloc (.cells #[] 21)).alloc (.cells #[.int .i32 r] 21)).drew) M3.out (World.ownsRow.alloc (bH w 21 1 w.heap.size w.heap.size rfl (Nat.le_refl _)) (.cells #[.int .i32 r] 21)) an (by simp [Value.ownBlock]))
                have hU := Lib.hid (show w9.ownsRow w.heap.size 21 1 v9 k (ax (E.take k)) by have := an.own; rwa [Nat.zero_add, List.nil_append] at this)
                have cG := Lib.hid ((ah (((Below.refl w.heap.size w).alloc (Nat.le_refl _) (.cells #[] 21)).alloc (by simp) (.cells #[.int .i32 r] 21))).trans (an.below (ah (((Below.refl w.heap.size w).alloc (Nat.le_refl _) (.cells #[] 21)).alloc (by simp) (.cells #[.int .i32 r] 21))).size (World.ownsRow.alloc (bH w 21 1 w.heap.size w.heap.size rfl (Nat.le_refl _)) (.cells #[.int .i32 r] 21))))
                clear an
                obtain ⟨Ml, LG, rfl, _⟩ := aP hU.out
                refine aA (i := 7) (by kernel_rfl) rfl (fun K hK => ?_)
                refine aL _ rfl (.tmp 38) (.tmp 40) 61 rfl w.heap.size 21 i0 _ 1 4 Tryz.underlying61 hi ql kR kM rfl (by decide) _ _ _ rfl hU.out _ (some ⟨w.heap.size + 1, 0, none⟩) 1 1 [.int .i32 r] rfl mR.out Kw.out (by simp only [maxLen]; omega) (by omega) cG.out.size ?_
                intro v9 w9 an
                try dsimp only
                refine hK.out _ _ ?_ (fun bf => ?_)
                · exact HC.out _ (cG.out.trans (an.below cG.out.size hU.out))
                clear hK K
                have jS := Lib.hid an.own
                have er := Lib.hid (cG.out.trans (an.below cG.out.size hU.out))
                clear an
                obtain ⟨M8, MQ, rfl, _⟩ := aP jS.out
                refine az (i := 11) (by kernel_rfl) rfl (by kernel_rfl) (fun K hK => ?_)
                refine aL _ rfl (.tmp 41) (.tmp 44) 61 rfl w.heap.size 21 i0 _ 1 4 Tryz.underlying61 hi ql kR kM rfl (by decide) _ _ _ rfl jS.out w9.heap.size _ 0 (c - k) [] rfl (vq _ _ _ _) (by simp) (by simp only [maxLen]; omega) (by omega) er.out.size ?_
                intro v9 w9 an
                obtain ⟨MY, Mu, rfl, _⟩ := aP an.own
                have fe := Lib.hid an.own
                have cE := Lib.hid (er.out.trans (an.below er.out.size jS.out))
                clear an
                try dsimp only
                refine hK.out _ _ ?_
                clear hK K
                have fl := Lib.hid (aM.below HB.out cE.out HB.out.lt)
                have cf := fl.out.cell 0
                have ff := fl.out.frozen 0
                refine az (i := 12) (by kernel_rfl) rfl (by kernel_rfl) (fun K hK => ?_)
                go_simp
                refine hK.out _ _ ?_
                clear hK K
                refine aN (by kernel_rfl) ?_ _
                go_simp
                go_wp2_with fail
                all_goals
                  go_end0
                  exact ⟨rfl, Ac.out _ _ (by have := fe.out; rw [P6.out]; exact this) cE.out, (aF.below g cE.out).trans (aF.set _ _ _ _)⟩
            · go_simp
              refine hK.out _ _ ?_ (fun bf => ?_)
              · exact HC.out _ (ah ((Below.refl w.heap.size w).alloc (Below.refl w.heap.size w).size (.cells #[.int .i32 r] 21)))
              clear hK K
              refine aA (i := 0) (by kernel_rfl) rfl (fun K hK => ?_)
              go_simp
              refine hK.out _ _ ?_ (fun bf => ?_)
              · exact HC.out _ (ah (((Below.refl w.heap.size w).alloc (Nat.le_refl _) (.cells #[.int .i32 r] 21)).alloc ((Below.refl w.heap.size w).alloc (Nat.le_refl _) (.cells #[.int .i32 r] 21)).size (.cells #[] 21)))
              clear hK K
              refine aA (i := 4) (by kernel_rfl) rfl (fun K hK => ?_)
              refine aL _ rfl (.tmp 34) (.tmp 37) 61 rfl w.heap.size 21 i0 _ 1 4 Tryz.underlying61 hi ql kR kM rfl (by decide) _ _ _ rfl (bH (w.alloc (.cells #[.int .i32 r] 21)) 21 1 (w.heap.size + 1) w.heap.size (by simp) (by omega)) _ (some ⟨b, off, none⟩) k c (ax (E.take k)) rfl (fX.out _ (ah (((Below.refl w.heap.size w).alloc (Nat.le_refl _) (.cells #[.int .i32 r] 21)).alloc (by simp) (.cells #[] 21)))) (cR _) (by simp only [maxLen]; omega) (by omega) (ah (((Below.refl w.heap.size w).alloc (Nat.le_refl _) (.cells #[.int .i32 r] 21)).alloc (by simp) (.cells #[] 21))).size ?_
              intro v9 w9 an
              try dsimp only
              refine hK.out _ _ ?_ (fun bf => ?_)
              · exact HC.out _ ((ah (((Below.refl w.heap.size w).alloc (Nat.le_refl _) (.cells #[.int .i32 r] 21)).alloc (by simp) (.cells #[] 21))).trans (an.below (ah (((Below.refl w.heap.size w).alloc (Nat.le_refl _) (.cells #[.int .i32 r] 21)).alloc (by simp) (.cells #[] 21))).size (bH (w.alloc (.cells #[.int .i32 r] 21)) 21 1 (w.heap.size + 1) w.heap.size (by simp) (by omega))))
              clear hK K
              have mR := Lib.hid (oz (w := ((w.alloc (.cells #[.int .i32 r] 21)).alloc (.cells #[] 21)).drew) Nr.out (bH (w.alloc (.cells #[.int .i32 r] 21)) 21 1 (w.heap.size + 1) w.heap.size (by simp) (by omega)) an (by simp [Value.ownBlock]))
              have hU := Lib.hid (show w9.ownsRow w.heap.size 21 1 v9 k (ax (E.take k)) by have := an.own; rwa [Nat.zero_add, List.nil_append] at this)
              have cG := Lib.hid ((ah (((Below.refl w.heap.size w).alloc (Nat.le_refl _) (.cells #[.int .i32 r] 21)).alloc (by simp) (.cells #[] 21))).trans (an.below (ah (((Below.refl w.heap.size w).alloc (Nat.le_refl _) (.cells #[.int .i32 r] 21)).alloc (by simp) (.cells #[] 21))).size (bH (w.alloc (.cells #[.int .i32 r] 21)) 21 1 (w.heap.size + 1) w.heap.size (by simp) (by omega))))
              clear an
              obtain ⟨Ml, LG, rfl, _⟩ := aP hU.out
              refine aA (i := 7) (by kernel_rfl) rfl (fun K hK => ?_)
              refine aL _ rfl (.tmp 38) (.tmp 40) 61 rfl w.heap.size 21 i0 _ 1 4 Tryz.underlying61 hi ql kR kM rfl (by decide) _ _ _ rfl hU.out _ (some ⟨w.heap.size, 0, none⟩) 1 1 [.int .i32 r] rfl mR.out Kw.out (by simp only [maxLen]; omega) (by omega) cG.out.size ?_
              intro v9 w9 an
              try dsimp only
              refine hK.out _ _ ?_ (fun bf => ?_)
              · exact HC.out _ (cG.out.trans (an.below cG.out.size hU.out))
              clear hK K
              have jS := Lib.hid an.own
              have er := Lib.hid (cG.out.trans (an.below cG.out.size hU.out))
              clear an
              obtain ⟨M8, MQ, rfl, _⟩ := aP jS.out
              refine az (i := 11) (by kernel_rfl) rfl (by kernel_rfl) (fun K hK => ?_)
              refine aL _ rfl (.tmp 41) (.tmp 44) 61 rfl w.heap.size 21 i0 _ 1 4 Tryz.underlying61 hi ql kR kM rfl (by decide) _ _ _ rfl jS.out w9.heap.size _ 0 (c - k) [] rfl (vq _ _ _ _) (by simp) (by simp only [maxLen]; omega) (by omega) er.out.size ?_
              intro v9 w9 an
              obtain ⟨MY, Mu, rfl, _⟩ := aP an.own
              have fe := Lib.hid an.own
              have cE := Lib.hid (er.out.trans (an.below er.out.size jS.out))
              clear an
              try dsimp only
              refine hK.out _ _ ?_
              clear hK K
              have fl := Lib.hid (aM.below HB.out cE.out HB.out.lt)
              have cf := fl.out.cell 0
              have ff := fl.out.frozen 0
              refine az (i := 12) (by kernel_rfl) rfl (by kernel_rfl) (fun K hK => ?_)
              go_simp
              refine hK.out _ _ ?_
              clear hK K
              refine aN (by kernel_rfl) ?_ _
              go_simp
              go_wp2_with fail
              all_goals
                go_end0
                exact ⟨rfl, Ac.out _ _ (by have := fe.out; rw [P6.out]; exact this) cE.out, (aF.below g cE.out).trans (aF.set _ _ _ _)⟩
          · have hlt : k < n := by rw [← cn.out]; exact (List.getElem?_eq_some_iff.1 hx).1
            have hc := Ap.out k x hx
            have hne : (x == r) = false := by
              rw [beq_eq_false_iff_ne]
              rintro rfl
              exact heq hx
            have UP : c ≠ k := by omega
            have hkc : k ≤ c := by omega
            clear hx heq
            go_upto_region 4 with fail
            refine aD (S := fun w' => w'.cell? ⟨g, 0, none⟩ = some (.slice (some ⟨b, off, none⟩) n c)) [1, 8] (by kernel_rfl) c0 (fun bf => ?_)
            refine aa (i := 2) (v := ?_) rfl (by kernel_rfl) (by kernel_rfl) (by kernel_rfl) (fun _ _ _ h => h) (Or.inl ⟨by rfl, ?_⟩) ?_
            rotate_left 1
            · intro w _
              go_simp
              try with_reducible rfl
            try simp only [Act.put]
            refine aa (i := 5) (v := ?_) rfl (by kernel_rfl) (by kernel_rfl) (by kernel_rfl) (fun _ _ _ h => h) (Or.inl ⟨by rfl, ?_⟩) ?_
            rotate_left 1
            · intro w _
              go_simp
              try with_reducible rfl
            try simp only [Act.put]
            refine aa (i := 9) (v := ?_) rfl (by kernel_rfl) (by kernel_rfl) (by kernel_rfl) (fun _ _ _ h => h) (Or.inl ⟨by rfl, ?_⟩) ?_
            rotate_left 1
            · intro w _
              go_simp
              try with_reducible rfl
            try simp only [Act.put]
            refine ai (i := 1) (v := ?_) rfl (by kernel_rfl) (by kernel_rfl) (by kernel_rfl) (by kernel_rfl) (by kernel_rfl) (fun _ _ _ h => h) (Or.inl ⟨by rfl, ?_⟩) (by assumption) ?_
            rotate_left 1
            · intro w bS
              (try dsimp only at bS)
              go_simp
              try with_reducible rfl
            try simp only [Act.put]
            refine aa (i := 3) (v := ?_) rfl (by kernel_rfl) (by kernel_rfl) (by kernel_rfl) (fun _ _ _ h => h) (Or.inl ⟨by rfl, ?_⟩) ?_
            rotate_left 1
            · intro w _
              go_simp
              try with_reducible rfl
            try simp only [Act.put]
            refine ai (i := 8) (v := ?_) rfl (by kernel_rfl) (by kernel_rfl) (by kernel_rfl) (by kernel_rfl) (by kernel_rfl) (fun _ _ _ h => h) (Or.inl ⟨by rfl, ?_⟩) (by assumption) ?_
            rotate_left 1
            · intro w bS
              (try dsimp only at bS)
              go_simp
              try with_reducible rfl
            try simp only [Act.put]
            refine aa (i := 10) (v := ?_) rfl (by kernel_rfl) (by kernel_rfl) (by kernel_rfl) (fun _ _ _ h => h) (Or.inl ⟨by rfl, ?_⟩) ?_
            rotate_left 1
            · intro w _
              go_simp
              try with_reducible rfl
            try simp only [Act.put]
            refine ef (i := 0) (j := 6) (by kernel_rfl) rfl rfl (fun K hK => ?_) (fun K hK => ?_)
            · go_simp
              refine hK.out _ _ ?_ (fun bf => ?_)
              · exact HC.out _ (ah ((Below.refl w.heap.size w).alloc (Below.refl w.heap.size w).size (.cells #[] 21)))
              clear hK K
              refine ef (i := 4) (j := 6) (by kernel_rfl) rfl rfl (fun K hK => ?_) (fun K hK => ?_)
              · refine aL _ rfl (.tmp 34) (.tmp 37) 61 rfl w.heap.size 21 i0 _ 1 4 Tryz.underlying61 hi ql kR kM rfl (by decide) _ _ _ rfl (bH w 21 1 w.heap.size w.heap.size rfl (Nat.le_refl _)) _ (some ⟨b, off, none⟩) k c (ax (E.take k)) rfl (fX.out _ (ah ((Below.refl w.heap.size w).alloc (Nat.le_refl _) (.cells #[] 21)))) (cR _) (by simp only [maxLen]; omega) (by omega) (ah ((Below.refl w.heap.size w).alloc (Nat.le_refl _) (.cells #[] 21))).size ?_
                intro v9 w9 an
                try dsimp only
                refine hK.out _ _ ?_ (fun bf => ?_)
                · exact HC.out _ ((ah ((Below.refl w.heap.size w).alloc (Nat.le_refl _) (.cells #[] 21))).trans (an.below (ah ((Below.refl w.heap.size w).alloc (Nat.le_refl _) (.cells #[] 21))).size (bH w 21 1 w.heap.size w.heap.size rfl (Nat.le_refl _))))
                clear hK K
                have hU := Lib.hid (show w9.ownsRow w.heap.size 21 1 v9 k (ax (E.take k)) by have := an.own; rwa [Nat.zero_add, List.nil_append] at this)
                have cG := Lib.hid ((ah ((Below.refl w.heap.size w).alloc (Nat.le_refl _) (.cells #[] 21))).trans (an.below (ah ((Below.refl w.heap.size w).alloc (Nat.le_refl _) (.cells #[] 21))).size (bH w 21 1 w.heap.size w.heap.size rfl (Nat.le_refl _))))
                clear an
                obtain ⟨Ml, LG, rfl, _⟩ := aP hU.out
                refine aA (i := 6) (by kernel_rfl) rfl (fun K hK => ?_)
                go_simp
                refine hK.out _ _ ?_ (fun bf => ?_)
                · exact HC.out _ (cG.out.alloc cG.out.size (.cells #[.int .i32 r] 21))
                clear hK K
                refine aA (i := 7) (by kernel_rfl) rfl (fun K hK => ?_)
                refine aL _ rfl (.tmp 38) (.tmp 40) 61 rfl w.heap.size 21 i0 _ 1 4 Tryz.underlying61 hi ql kR kM rfl (by decide) _ _ _ rfl (World.ownsRow.alloc hU.out (.cells #[.int .i32 r] 21)) _ (some ⟨w9.heap.size, 0, none⟩) 1 1 [.int .i32 r] rfl (Rd.new w9 21 1 1 [.int .i32 r] rfl) Kw.out (by simp only [maxLen]; omega) (by omega) (cG.out.alloc cG.out.size (.cells #[.int .i32 r] 21)).size ?_
                intro v9 w9 an
                try dsimp only
                refine hK.out _ _ ?_ (fun bf => ?_)
                · exact HC.out _ ((cG.out.alloc cG.out.size (.cells #[.int .i32 r] 21)).trans (an.below (cG.out.alloc cG.out.size (.cells #[.int .i32 r] 21)).size (World.ownsRow.alloc hU.out (.cells #[.int .i32 r] 21))))
                clear hK K
                have jS := Lib.hid an.own
                have er := Lib.hid ((cG.out.alloc cG.out.size (.cells #[.int .i32 r] 21)).trans (an.below (cG.out.alloc cG.out.size (.cells #[.int .i32 r] 21)).size (World.ownsRow.alloc hU.out (.cells #[.int .i32 r] 21))))
                clear an
                obtain ⟨M8, MQ, rfl, _⟩ := aP jS.out
                refine az (i := 11) (by kernel_rfl) rfl (by kernel_rfl) (fun K hK => ?_)
                refine aL _ rfl (.tmp 41) (.tmp 44) 61 rfl w.heap.size 21 i0 _ 1 4 Tryz.underlying61 hi ql kR kM rfl (by decide) _ _ _ rfl jS.out _ (some ⟨b, off + k, none⟩) (n - k) (c - k) (ax (E.drop k)) rfl (kN.out _ er.out) (cR _) (by simp only [maxLen]; omega) (by omega) er.out.size ?_
                intro v9 w9 an
                obtain ⟨MY, Mu, rfl, _⟩ := aP an.own
                have fe := Lib.hid an.own
                have cE := Lib.hid (er.out.trans (an.below er.out.size jS.out))
                clear an
                try dsimp only
                refine hK.out _ _ ?_
                clear hK K
                have fl := Lib.hid (aM.below HB.out cE.out HB.out.lt)
                have cf := fl.out.cell 0
                have ff := fl.out.frozen 0
                refine az (i := 12) (by kernel_rfl) rfl (by kernel_rfl) (fun K hK => ?_)
                go_simp
                refine hK.out _ _ ?_
                clear hK K
                refine aN (by kernel_rfl) ?_ _
                go_simp
                go_wp2_with fail
                all_goals
                  go_end0
                  exact ⟨rfl, Ac.out _ _ fe.out cE.out, (aF.below g cE.out).trans (aF.set _ _ _ _)⟩
              · go_simp
                refine hK.out _ _ ?_ (fun bf => ?_)
                · exact HC.out _ (ah (((Below.refl w.heap.size w).alloc (Nat.le_refl _) (.cells #[] 21)).alloc ((Below.refl w.heap.size w).alloc (Nat.le_refl _) (.cells #[] 21)).size (.cells #[.int .i32 r] 21)))
                clear hK K
                refine aA (i := 4) (by kernel_rfl) rfl (fun K hK => ?_)
                refine aL _ rfl (.tmp 34) (.tmp 37) 61 rfl w.heap.size 21 i0 _ 1 4 Tryz.underlying61 hi ql kR kM rfl (by decide) _ _ _ rfl (World.ownsRow.alloc (bH w 21 1 w.heap.size w.heap.size rfl (Nat.le_refl _)) (.cells #[.int .i32 r] 21)) _ (some ⟨b, off, none⟩) k c (ax (E.take k)) rfl (fX.out _ (ah (((Below.refl w.heap.size w).alloc (Nat.le_refl _) (.cells #[] 21)).alloc (by simp) (.cells #[.int .i32 r] 21)))) (cR _) (by simp only [maxLen]; omega) (by omega) (ah (((Below.refl w.heap.size w).alloc (Nat.le_refl _) (.cells #[] 21)).alloc (by simp) (.cells #[.int .i32 r] 21))).size ?_
                intro v9 w9 an
                try dsimp only
                refine hK.out _ _ ?_ (fun bf => ?_)
                · exact HC.out _ ((ah (((Below.refl w.heap.size w).alloc (Nat.le_refl _) (.cells #[] 21)).alloc (by simp) (.cells #[.int .i32 r] 21))).trans (an.below (ah (((Below.refl w.heap.size w).alloc (Nat.le_refl _) (.cells #[] 21)).alloc (by simp) (.cells #[.int .i32 r] 21))).size (World.ownsRow.alloc (bH w 21 1 w.heap.size w.heap.size rfl (Nat.le_refl _)) (.cells #[.int .i32 r] 21))))
                clear hK K
                have mR := Lib.hid (oz (w := ((w.alloc (.cells #[] 21)).alloc (.cells #[.int .i32 r] 21)).drew) M3.out (World.ownsRow.alloc (bH w 21 1 w.heap.size w.heap.size rfl (Nat.le_refl _)) (.cells #[.int .i32 r] 21)) an (by simp [Value.ownBlock]))
                have hU := Lib.hid (show w9.ownsRow w.heap.size 21 1 v9 k (ax (E.take k)) by have := an.own; rwa [Nat.zero_add, List.nil_append] at this)
                have cG := Lib.hid ((ah (((Below.refl w.heap.size w).alloc (Nat.le_refl _) (.cells #[] 21)).alloc (by simp) (.cells #[.int .i32 r] 21))).trans (an.below (ah (((Below.refl w.heap.size w).alloc (Nat.le_refl _) (.cells #[] 21)).alloc (by simp) (.cells #[.int .i32 r] 21))).size (World.ownsRow.alloc (bH w 21 1 w.heap.size w.heap.size rfl (Nat.le_refl _)) (.cells #[.int .i32 r] 21))))
                clear an
                obtain ⟨Ml, LG, rfl, _⟩ := aP hU.out
                refine aA (i := 7) (by kernel_rfl) rfl (fun K hK => ?_)
                refine aL _ rfl (.tmp 38) (.tmp 40) 61 rfl w.heap.size 21 i0 _ 1 4 Tryz.underlying61 hi ql kR kM rfl (by decide) _ _ _ rfl hU.out _ (some ⟨w.heap.size + 1, 0, none⟩) 1 1 [.int .i32 r] rfl mR.out Kw.out (by simp only [maxLen]; omega) (by omega) cG.out.size ?_
                intro v9 w9 an
                try dsimp only
                refine hK.out _ _ ?_ (fun bf => ?_)
                · exact HC.out _ (cG.out.trans (an.below cG.out.size hU.out))
                clear hK K
                have jS := Lib.hid an.own
                have er := Lib.hid (cG.out.trans (an.below cG.out.size hU.out))
                clear an
                obtain ⟨M8, MQ, rfl, _⟩ := aP jS.out
                refine az (i := 11) (by kernel_rfl) rfl (by kernel_rfl) (fun K hK => ?_)
                refine aL _ rfl (.tmp 41) (.tmp 44) 61 rfl w.heap.size 21 i0 _ 1 4 Tryz.underlying61 hi ql kR kM rfl (by decide) _ _ _ rfl jS.out _ (some ⟨b, off + k, none⟩) (n - k) (c - k) (ax (E.drop k)) rfl (kN.out _ er.out) (cR _) (by simp only [maxLen]; omega) (by omega) er.out.size ?_
                intro v9 w9 an
                obtain ⟨MY, Mu, rfl, _⟩ := aP an.own
                have fe := Lib.hid an.own
                have cE := Lib.hid (er.out.trans (an.below er.out.size jS.out))
                clear an
                try dsimp only
                refine hK.out _ _ ?_
                clear hK K
                have fl := Lib.hid (aM.below HB.out cE.out HB.out.lt)
                have cf := fl.out.cell 0
                have ff := fl.out.frozen 0
                refine az (i := 12) (by kernel_rfl) rfl (by kernel_rfl) (fun K hK => ?_)
                go_simp
                refine hK.out _ _ ?_
                clear hK K
                refine aN (by kernel_rfl) ?_ _
                go_simp
                go_wp2_with fail
                all_goals
                  go_end0
                  exact ⟨rfl, Ac.out _ _ fe.out cE.out, (aF.below g cE.out).trans (aF.set _ _ _ _)⟩
            · go_simp
              refine hK.out _ _ ?_ (fun bf => ?_)
              · exact HC.out _ (ah ((Below.refl w.heap.size w).alloc (Below.refl w.heap.size w).size (.cells #[.int .i32 r] 21)))
              clear hK K
              refine aA (i := 0) (by kernel_rfl) rfl (fun K hK => ?_)
              go_simp
              refine hK.out _ _ ?_ (fun bf => ?_)
              · exact HC.out _ (ah (((Below.refl w.heap.size w).alloc (Nat.le_refl _) (.cells #[.int .i32 r] 21)).alloc ((Below.refl w.heap.size w).alloc (Nat.le_refl _) (.cells #[.int .i32 r] 21)).size (.cells #[] 21)))
              clear hK K
              refine aA (i := 4) (by kernel_rfl) rfl (fun K hK => ?_)
              refine aL _ rfl (.tmp 34) (.tmp 37) 61 rfl w.heap.size 21 i0 _ 1 4 Tryz.underlying61 hi ql kR kM rfl (by decide) _ _ _ rfl (bH (w.alloc (.cells #[.int .i32 r] 21)) 21 1 (w.heap.size + 1) w.heap.size (by simp) (by omega)) _ (some ⟨b, off, none⟩) k c (ax (E.take k)) rfl (fX.out _ (ah (((Below.refl w.heap.size w).alloc (Nat.le_refl _) (.cells #[.int .i32 r] 21)).alloc (by simp) (.cells #[] 21)))) (cR _) (by simp only [maxLen]; omega) (by omega) (ah (((Below.refl w.heap.size w).alloc (Nat.le_refl _) (.cells #[.int .i32 r] 21)).alloc (by simp) (.cells #[] 21))).size ?_
              intro v9 w9 an
              try dsimp only
              refine hK.out _ _ ?_ (fun bf => ?_)
              · exact HC.out _ ((ah (((Below.refl w.heap.size w).alloc (Nat.le_refl _) (.cells #[.int .i32 r] 21)).alloc (by simp) (.cells #[] 21))).trans (an.below (ah (((Below.refl w.heap.size w).alloc (Nat.le_refl _) (.cells #[.int .i32 r] 21)).alloc (by simp) (.cells #[] 21))).size (bH (w.alloc (.cells #[.int .i32 r] 21)) 21 1 (w.heap.size + 1) w.heap.size (by simp) (by omega))))
              clear hK K
              have mR := Lib.hid (oz (w := ((w.alloc (.cells #[.int .i32 r] 21)).alloc (.cells #[] 21)).drew) Nr.out (bH (w.alloc (.cells #[.int .i32 r] 21)) 21 1 (w.heap.size + 1) w.heap.size (by simp) (by omega)) an (by simp [Value.ownBlock]))
              have hU := Lib.hid (show w9.ownsRow w.heap.size 21 1 v9 k (ax (E.take k)) by have := an.own; rwa [Nat.zero_add, List.nil_append] at this)
              have cG := Lib.hid ((ah (((Below.refl w.heap.size w).alloc (Nat.le_refl _) (.cells #[.int .i32 r] 21)).alloc (by simp) (.cells #[] 21))).trans (an.below (ah (((Below.refl w.heap.size w).alloc (Nat.le_refl _) (.cells #[.int .i32 r] 21)).alloc (by simp) (.cells #[] 21))).size (bH (w.alloc (.cells #[.int .i32 r] 21)) 21 1 (w.heap.size + 1) w.heap.size (by simp) (by omega))))
              clear an
              obtain ⟨Ml, LG, rfl, _⟩ := aP hU.out
              refine aA (i := 7) (by kernel_rfl) rfl (fun K hK => ?_)
              refine aL _ rfl (.tmp 38) (.tmp 40) 61 rfl w.heap.size 21 i0 _ 1 4 Tryz.underlying61 hi ql kR kM rfl (by decide) _ _ _ rfl hU.out _ (some ⟨w.heap.size, 0, none⟩) 1 1 [.int .i32 r] rfl mR.out Kw.out (by simp only [maxLen]; omega) (by omega) cG.out.size ?_
              intro v9 w9 an
              try dsimp only
              refine hK.out _ _ ?_ (fun bf => ?_)
              · exact HC.out _ (cG.out.trans (an.below cG.out.size hU.out))
              clear hK K
              have jS := Lib.hid an.own
              have er := Lib.hid (cG.out.trans (an.below cG.out.size hU.out))
              clear an
              obtain ⟨M8, MQ, rfl, _⟩ := aP jS.out
              refine az (i := 11) (by kernel_rfl) rfl (by kernel_rfl) (fun K hK => ?_)
              refine aL _ rfl (.tmp 41) (.tmp 44) 61 rfl w.heap.size 21 i0 _ 1 4 Tryz.underlying61 hi ql kR kM rfl (by decide) _ _ _ rfl jS.out _ (some ⟨b, off + k, none⟩) (n - k) (c - k) (ax (E.drop k)) rfl (kN.out _ er.out) (cR _) (by simp only [maxLen]; omega) (by omega) er.out.size ?_
              intro v9 w9 an
              obtain ⟨MY, Mu, rfl, _⟩ := aP an.own
              have fe := Lib.hid an.own
              have cE := Lib.hid (er.out.trans (an.below er.out.size jS.out))
              clear an
              try dsimp only
              refine hK.out _ _ ?_
              clear hK K
              have fl := Lib.hid (aM.below HB.out cE.out HB.out.lt)
              have cf := fl.out.cell 0
              have ff := fl.out.frozen 0
              refine az (i := 12) (by kernel_rfl) rfl (by kernel_rfl) (fun K hK => ?_)
              go_simp
              refine hK.out _ _ ?_
              clear hK K
              refine aN (by kernel_rfl) ?_ _
              go_simp
              go_wp2_with fail
              all_goals
                go_end0
                exact ⟨rfl, Ac.out _ _ fe.out cE.out, (aF.below g cE.out).trans (aF.set _ _ _ _)⟩
theorem JH {lo g : Nat} {E : List Int} (r : Int) {w : World} (h : lp lo g E w) (hE : E.Pairwise (· < ·)) (h0 : E ≠ []) (hl : E.length ≤ 1000000) (hlo : lo ≤ w.heap.size) :
    Calls Tryz.prog 163 (#[.int .i32 r] ++ #[.pointer (some ⟨g, 0, none⟩)]) w fun e w' => e = .returned (.tuple #[]) ∧ lp lo g (iL E r) w' ∧ aF w g w' := by
 obtain ⟨A, n, c, h1, h2, h3⟩ := h;have hlen : E.length = n := (by have := h2.1; rw [bt] at this; omega);have hpos : 0 < n := (by rw [← hlen]; exact List.length_pos_iff.2 h0);obtain ⟨b, off, rfl, hb, oo, _⟩ := h2.2 hpos;exact DB lo g b off n c E r w hE hlo h1 h2 oo hb (by omega) h3
theorem lp.below {lo g : Nat} {E : List Int} {w w' : World} (h : lp lo g E w) (hb : Below w.heap.size w w') : lp lo g E w' := by
 obtain ⟨A, n, c, h1, h2, h3⟩ := h;exact ⟨A, n, c, aM.below h1 hb h1.lt, h2.keep (aC.any hb), h3⟩
theorem Gh {E : List Int} (r : Int) (h : E ≠ []) : iL E r ≠ [] := by
 have := (qW E r).1;have h2 := List.length_pos_iff.2 h;exact List.length_pos_iff.1 (by omega)
structure mm (w : World) (L : List ag) (b : Nat) (xs : List Int) (wr : World) : Prop where
  ex : ∃ E : List Int, lp w.heap.size (w.heap.size + 1) E wr ∧ E.Pairwise (· < ·) ∧ E ≠ [] ∧ E.length ≤ b ∧ bG L = xs.foldl iL E
  below : Below w.heap.size w wr
theorem mm.next {w wr : World} {L : List ag} {b : Nat} {x : Int} {xs : List Int} (h : mm w L b (x :: xs) wr) (hb : b ≤ 1000000) :
    Calls Tryz.prog 163 (#[.int .i32 x] ++ #[.pointer (some ⟨w.heap.size + 1, 0, none⟩)]) wr fun e w' => e = .returned (.tuple #[]) ∧ mm w L (b + 1) xs w' ∧ aF wr (w.heap.size + 1) w' := by
 obtain ⟨⟨E, h1, h2, h3, h4, h5⟩, h6⟩ := h;refine (JH x h1 h2 h3 (by omega) h6.size).mono ?_;rintro e w' ⟨rfl, h7, h8⟩;refine ⟨rfl, ⟨⟨iL E x, h7, uf h2 x, Gh x h3, by have := (qW E x).2; omega, h5⟩, ?_⟩, h8⟩;exact h6.trans (h8.to h6.size (by omega))
theorem mm.alloc {w wr : World} {L : List ag} {b : Nat} {xs : List Int} (h : mm w L b xs wr) (o : Obj) : mm w L b xs (wr.alloc o) := by
 obtain ⟨⟨E, h1, h2, h3, h4, h5⟩, h6⟩ := h;exact ⟨⟨E, h1.below ((Below.refl _ _).alloc (Nat.le_refl _) o), h2, h3, h4, h5⟩, h6.alloc h6.size o⟩
theorem mm.lt {w wr : World} {L : List ag} {b : Nat} {xs : List Int} (h : mm w L b xs wr) : w.heap.size + 1 < wr.heap.size := by
 obtain ⟨⟨E, ⟨A, n, c, h1, _⟩, _⟩, _⟩ := h;exact h1.lt
theorem mm.cell {w wr : World} {L : List ag} {b : Nat} (h : mm w L b [] wr) : ∃ A n c, aM wr (w.heap.size + 1) 61 #[.slice A n c] ∧ di wr (fun b => w.heap.size ≤ b) 1 A n (ax (bG L)) := by
 obtain ⟨⟨E, ⟨A, n, c, h1, h2, _⟩, _, _, _, h5⟩, _⟩ := h;rw [h5];exact ⟨A, n, c, h1, h2.keep (aC.refl (fun _ h => h.2))⟩
def MM (w : World) (L : List ag) (n : Nat) (i : Value) (wr : World) : Prop :=
  ∃ j : Nat, j ≤ n ∧ i = .int .i64 j ∧ mm w L (1 + 400 * j) ((L.drop j).flatMap dG) wr
def Nn (w : World) (L : List ag) (s : ag) (j n : Nat) (i : Value) (wr : World) : Prop :=
  ∃ k : Nat, k ≤ n ∧ i = .int .i64 k ∧ mm w L (1 + 400 * j + 2 * k) (dG (s.drop k) ++ (L.drop (j + 1)).flatMap dG) wr
theorem uj (X : Nat → Prop) (L : List ag) (A : Option Addr) (n c : Nat) (w : World) (hn : n ≤ 200) (hS : ∀ s ∈ L, aK s) (hL : eE (vj w X) w X 1 A n L) :
    Calls Tryz.prog 134 #[.slice A n c] w fun e w' => (∃ A' n' c', e = .returned (.slice A' n' c') ∧ di w' (fun b => w.heap.size ≤ b) 1 A' n' (ax (bG L))) ∧ Below w.heap.size w w' := by
 have cn := Lib.hid (show L.length = n from hL.len);have HL := Lib.hid hL;have HS := Lib.hid hS;have H0 := Lib.hid (show mm w L (1 + 400 * 0) ((L.drop 0).flatMap dG) ((w.alloc (.cells #[.int .i32 0] 21)).alloc (.cells #[.slice (some ⟨w.heap.size, 0, none⟩) 1 1] 61)) by
  refine ⟨⟨[0], ⟨some ⟨w.heap.size, 0, none⟩, 1, 1, ?_, ?_, Nat.le_refl _⟩, by simp, by simp, by simp, rfl⟩, ((Below.refl _ _).alloc (Nat.le_refl _) _).alloc (by simp) _⟩
  ·have := aM.new (w.alloc (.cells #[.int .i32 0] 21)) 61 #[.slice (some ⟨w.heap.size, 0, none⟩) 1 1];simpa using this
  have h1 := di.new (w := w) (X := fun b => b ≠ w.heap.size + 1 ∧ w.heap.size ≤ b) (sz := 1) (n := 1) 21 [.int .i32 0] rfl ⟨by omega, Nat.le_refl _⟩;exact h1.keep (aC.any ((Below.refl _ _).alloc (Nat.le_refl _) _)))
 clear hL hS;go_enter Tryz.func134, Tryz.ntmps134;go_wp2_with fail;go_loopw [13] (MM w L n) (fun i _ => n - (intOf i).toNat);(case atStart => exact ⟨0, Nat.zero_le _, rfl, H0.out⟩);obtain ⟨j, hj, rfl, hst⟩ := hrel;have eF := Lib.hid hst;by_cases hlt : j < n
 ·obtain ⟨s, hs⟩ : ∃ z, L[j]? = some z := ⟨_, List.getElem?_eq_getElem (by rw [cn.out]; exact hlt)⟩;obtain ⟨b, off, A', n', c', rfl, _, eG, C7, hrd, _, hnn⟩ := AA HL.out hs;have Uk := (hst.below.cell (p := ⟨b, off + j, none⟩) eG).trans C7;have HR := Lib.hid (HS.out s (List.mem_of_getElem? hs));have OF := Lib.hid (show s.length = n' from hrd.len);have hn' : n' ≤ 200 := (by rw [← OF.out]; exact HR.out.size);have vl := Lib.hid hrd;have HI := Lib.hid (show mm w L (1 + 400 * j + 2 * 0) (dG (s.drop 0) ++ (L.drop (j + 1)).flatMap dG) wr by
   have := eF.out;rw [gE hs, List.flatMap_cons] at this;exact this)
  clear hs hrd hst eF C7;go_wp2_with fail;go_loopw [19] (Nn w L s j n') (fun i _ => n' - (intOf i).toNat);(case atStart => exact ⟨0, Nat.zero_le _, rfl, HI.out⟩);obtain ⟨k, hk, rfl, hst⟩ := hrel;by_cases hk2 : k < n'
  ·obtain ⟨⟨x, y⟩, hx⟩ : ∃ z, s[k]? = some z := ⟨_, List.getElem?_eq_getElem (by rw [OF.out]; exact hk2)⟩;obtain ⟨b2, off2, rfl, aU, c0, c1⟩ := vl.out.at hx;have d0 := (hst.below.cell (p := ⟨b2, off2 + k * 2, none⟩) aU).trans c0;have d1 := (hst.below.cell (p := ⟨b2, off2 + k * 2 + 1, none⟩) aU).trans c1;have hxy := HR.out.each (x, y) (List.mem_of_getElem? hx);simp only at hxy;rw [gE hx, show dG ((x, y) :: s.drop (k + 1)) = x :: (y + 1) :: dG (s.drop (k + 1)) from rfl] at hst;have Sv := hst.lt;have eF := Lib.hid (hst.alloc (.cells #[.int .i32 x, .int .i32 y] 74));have BY := Lib.hid (aM.new wr 74 #[.int .i32 x, .int .i32 y]);clear hx c0 c1 hst;go_wp2_with fail;refine (eF.out.next (by omega)).mono ?_;rintro e w1 ⟨rfl, Nb, wC⟩;have aT : aM w1 wr.heap.size 74 #[.int .i32 x, .int .i32 y] := (wC.2.2.2.2 _ BY.out.lt (by omega)).trans BY.out;have e1 : w1.cell? ⟨wr.heap.size, 1, none⟩ = some (.int .i32 y) := aT.cell 1;have OD := Lib.hid Nb;clear Nb wC aT;go_wp2_with fail;refine (OD.out.next (by omega)).mono ?_;rintro e w2 ⟨rfl, Gr, _⟩;have Py := Lib.hid (show mm w L (1 + 400 * j + 2 * (k + 1)) (dG (s.drop (k + 1)) ++ (L.drop (j + 1)).flatMap dG) w2 from Gr);clear Gr;go_wp2_with fail;exact ⟨⟨k + 1, by omega, by go_num, Py.out⟩, by simp [intOf]; omega⟩
  obtain rfl : k = n' := (by omega);have eF := Lib.hid (show mm w L (1 + 400 * (j + 1)) ((L.drop (j + 1)).flatMap dG) wr by
   obtain ⟨⟨E, h1, h2, h3, h4, h5⟩, h6⟩ := hst;rw [List.drop_of_length_le (by rw [OF.out]; exact Nat.le_refl _)] at h5;exact ⟨⟨E, h1, h2, h3, by omega, h5⟩, h6⟩)
  clear hst;go_wp2_with fail;exact ⟨⟨j + 1, by omega, by go_num, eF.out⟩, by simp [intOf]; omega⟩
 obtain rfl : j = n := (by omega);rw [List.drop_of_length_le (by rw [cn.out]; exact Nat.le_refl _)] at hst;obtain ⟨A', n', c', h1, h2⟩ := hst.cell;have d0 : wr.cell? ⟨w.heap.size + 1, 0, none⟩ = some (.slice A' n' c') := h1.cell 0;have HB := Lib.hid hst.below;have H2 := Lib.hid h2;clear h1 h2 hst eF;go_wp2_with fail;go_ret;exact ⟨⟨A', n', c', rfl, H2.out⟩, HB.out⟩
end Go.Proofs.YthnhbcohfoodlaaGreatDoor
