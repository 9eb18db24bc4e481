/- LiveClear: keys behind a clearing one leave what they leave alone. The plain law, and the walk of scriptlaw21.LiveClear. -/
import Derived.Test.YthgkgcdnidkckaaLiveBackWalk
namespace Go.Proofs.Ythgkgcdnidkckaa
open Go.RowKit

/-- THE PLAIN LAW. -/
theorem clear_law (ks ms : List (Int × Int)) (a b : List Int) (x y : Int) (h : typedP ks = (a, 0, x)) (g : typedP ms = (b, 0, y)) (hl : ks.length + ms.length + 1 ≤ 500) :
    ∃ z, typedP (ks ++ [(3, 0)] ++ ms) = (b, 0, z) := by
  have key : ∀ (ms : List (Int × Int)) (acc : List Int) (i j : Nat), (typedGo acc i ms).2.1 = 0 → typedGo acc j ms = typedGo acc i ms := by
    intro ms
    induction ms with
    | nil => intro acc i j _; rfl
    | cons k ms ih =>
      intro acc i j
      simp only [typedGo]
      by_cases hk : (strikeP acc k.1 k.2).2 = 0
      · simp only [hk, if_true]; exact ih _ _ _
      · rw [if_neg hk]; intro h0; exact absurd h0 hk
  unfold typedP at h g ⊢
  rw [if_neg (by omega)] at h g
  rw [if_neg (by simp; omega)]
  rw [typedGo_append, typedGo_append, h]
  simp only [if_true]
  have h3 : typedGo a (0 + ks.length) [(3, 0)] = ([], 0, 0) := by simp [typedGo, strikeP]
  rw [h3]
  simp only [if_true]
  rw [key ms [] 0 _ (by rw [g]), g]
  exact ⟨y, rfl⟩

theorem fault_case (l : List (Int × Int)) : (typedP l).2.1 = 0 → l.length ≤ 500 := by
  unfold typedP
  split
  · intro h; simp at h
  · intro _; omega

theorem clear_len (l : List (Int × Int)) : (typedP l).1.length ≤ 500 := by
  unfold typedP
  split
  · simp
  · have := typedGo_len l [] 0
    simp at this
    omega

set_option maxRecDepth 100000 in
set_option maxHeartbeats 1600000 in
theorem live_clear (A C : Option Addr) (n c m d : Nat) (ks ms : List (Int × Int)) (w : World) (hn : n ≤ 1152921504606846975) (hm : m ≤ 1152921504606846975)
    (hk : RdK w w.heap.size A n ks) (hr : RdK w w.heap.size C m ms) :
    Calls Try.prog 5 #[.slice A n c, .slice C m d] w fun e w' => e = .returned (.bool true) ∧ Below w.heap.size w w' := by
  obtain ⟨i0, hi, hz0, hz1, hz2⟩ := info_parts Try.info36
  obtain ⟨a, e1, x1, hp⟩ : ∃ acc er at', typedP ks = (acc, er, at') := ⟨_, _, _, rfl⟩
  obtain ⟨b, e2, x2, hq⟩ : ∃ acc er at', typedP ms = (acc, er, at') := ⟨_, _, _, rfl⟩
  have hf1 := fault_case ks
  have hf2 := fault_case ms
  have hb500 := clear_len ms
  rw [hp] at hf1
  rw [hq] at hf2 hb500
  rw [hk.len] at hf1
  rw [hr.len] at hf2
  dsimp only at hf1 hf2 hb500
  have HP := Lib.hid hp
  have HQ := Lib.hid hq
  clear hp hq
  have HK := Lib.hid hk
  clear hk
  have HR := Lib.hid hr
  clear hr
  by_cases hcase : e1 = 0 ∧ e2 = 0 ∧ n + m + 1 ≤ 500
  · obtain ⟨rfl, rfl, h5⟩ := hcase
    clear hf1 hf2
    go_enter Try.func5, Try.ntmps5
    go_wp2_with fail
    refine (live_alive w).mono ?_
    rintro e w0 ⟨rfl, hb0⟩
    have hz0' := hb0.size
    go_wp2_with fail
    refine (typed_any A n c ks w0 (by omega) ((HK.out.below hb0).more hz0')).mono ?_
    rintro e w1 ⟨v1, rfl, hown1, hb1⟩
    rw [HP.out] at hown1 ⊢
    dsimp only at hown1 ⊢
    clear hown1
    have hz1' := hb1.size
    go_wp2_with fail
    refine (typed_any C m d ms (w1.alloc (.cells #[.int .i64 0, .int .i64 x1] 31)) (by omega) ((((HR.out.below hb0).below (hb1.mono hz0')).alloc (by omega) _).more (by simp; omega))).mono ?_
    rintro e w2 ⟨v2, rfl, hown2, hb2⟩
    rw [HQ.out] at hown2 ⊢
    dsimp only at hown2 ⊢
    simp only [World.size_alloc] at hb2 hown2
    obtain ⟨A2, c2, rfl, _⟩ := own_form hown2
    have hz2' := hb2.size
    simp only [World.size_alloc] at hz2'
    have r1 := (((Blk.new w1 31 #[.int .i64 0, .int .i64 x1]).below hb2 (by omega)).alloc (.cells #[.int .i64 0, .int .i64 x2] 31)).cell 0
    simp at r1
    have HO := Lib.hid hown2
    clear hown2
    have HE := Lib.hid (own_empty (w2.alloc (.cells #[.int .i64 0, .int .i64 x2] 31)) 36 2 (w2.heap.size + 1) (w2.heap.size + 1) (by simp) (Nat.le_refl _))
    have hbA : Below w.heap.size w (w2.alloc (.cells #[.int .i64 0, .int .i64 x2] 31)) := (((hb0.trans (hb1.mono hz0')).alloc (by omega) _).trans (hb2.mono (by omega))).alloc (by omega) _
    have HQ1 := Lib.hid (show RdK ((w2.alloc (.cells #[.int .i64 0, .int .i64 x2] 31)).alloc (.cells #[] 36)) w.heap.size A n ks from (HK.out.below hbA).alloc (by simp; omega) _)
    have HL := Lib.hid HK.out.len
    have HM := Lib.hid HR.out.len
    go_wp2_with (at_builtin; refine wpList_append_rd _ rfl (.tmp 41) (.tmp 42) 28 rfl (w2.heap.size + 1) 36 i0 _ 2 16 Try.underlying28 hi hz0 hz1 hz2 rfl (by decide) (.slice (some ⟨w2.heap.size + 1, 0, none⟩) 0 0) 0 [] rfl ?o1 w.heap.size A n c (keyCells ks) rfl HQ1.out (keyCells_one _) (by simp only [maxLen]; omega) (by omega) (by simp) ?_)
    case o1 => exact HE.out
    intro va wa happ
    have howna : OwnK wa (w2.heap.size + 1) va ks := OwnK.of happ HL.out rfl
    have hba : Below (w2.heap.size + 1) (w2.alloc (.cells #[.int .i64 0, .int .i64 x2] 31)) wa := ((Below.refl _ _).alloc (by simp) _).trans (happ.below (by simp) HE.out)
    clear happ
    have hza := hba.size
    simp only [World.size_alloc] at hza
    obtain ⟨Aa, ca, rfl, hca⟩ := own_form howna
    rw [HL.out] at hca
    have HN := Lib.hid (Rd.new wa 36 2 1 [.int .i64 3, .int .i32 0] rfl)
    have HOA := Lib.hid (World.ownsRow.alloc howna (.cells #[.int .i64 3, .int .i32 0] 36))
    rw [HL.out] at HOA ⊢
    clear howna
    go_wp2_with (at_builtin; refine wpList_append_rd _ rfl (.tmp 43) (.tmp 45) 28 rfl (w2.heap.size + 1) 36 i0 _ 2 16 Try.underlying28 hi hz0 hz1 hz2 rfl (by decide) _ _ _ rfl HOA.out (wa.heap.size + 1) (some ⟨wa.heap.size, 0, none⟩) 1 1 [.int .i64 3, .int .i32 0] rfl HN.out ?s1 (by simp only [maxLen]; omega) (by omega) (by simp; omega) ?_)
    case s1 => intro u hu; simp at hu; rcases hu with rfl | rfl <;> rfl
    intro vb wb happ
    have hownb : OwnK wb (w2.heap.size + 1) vb (ks ++ [(3, 0)]) := OwnK.of happ (by simp [HL.out]) (by rw [keyCells_append]; rfl)
    have hbb : Below (w2.heap.size + 1) (w2.alloc (.cells #[.int .i64 0, .int .i64 x2] 31)) wb := (hba.alloc (by omega) _).trans (happ.below (by simp; omega) HOA.out)
    clear happ
    have hzb := hbb.size
    simp only [World.size_alloc] at hzb
    obtain ⟨Ab, cb, rfl, hcb⟩ := own_form hownb
    have hl1 : (ks ++ [((3 : Int), (0 : Int))]).length = n + 1 := by simp [HL.out]
    have HQ2 := Lib.hid (show RdK wb w.heap.size C m ms from (HR.out.below hbA).below (hbb.mono (by omega)))
    unfold OwnK at hownb
    rw [hl1] at hcb hownb ⊢
    have HOB := Lib.hid hownb
    clear hownb hl1
    go_wp2_with (at_builtin; refine wpList_append_rd _ rfl (.tmp 46) (.tmp 47) 28 rfl (w2.heap.size + 1) 36 i0 _ 2 16 Try.underlying28 hi hz0 hz1 hz2 rfl (by decide) _ _ _ rfl HOB.out w.heap.size C m d (keyCells ms) rfl HQ2.out (keyCells_one _) (by simp only [maxLen]; omega) (by omega) (by omega) ?_)
    intro vc wc happ
    have hownc : OwnK wc (w2.heap.size + 1) vc (ks ++ [(3, 0)] ++ ms) := OwnK.of happ (by simp [HL.out, HM.out]; omega) (by rw [keyCells_append])
    have hbc : Below (w2.heap.size + 1) (w2.alloc (.cells #[.int .i64 0, .int .i64 x2] 31)) wc := hbb.trans (happ.below (by omega) HOB.out)
    clear happ
    have hzc := hbc.size
    simp only [World.size_alloc] at hzc
    obtain ⟨Ac, cc, rfl, hcc⟩ := own_form hownc
    have hl2 : (ks ++ [((3 : Int), (0 : Int))] ++ ms).length = n + 1 + m := by simp [HL.out, HM.out]; omega
    obtain ⟨z, hz⟩ := clear_law ks ms a b x1 x2 HP.out HQ.out (by rw [HL.out, HM.out]; exact h5)
    generalize ks ++ [((3 : Int), (0 : Int))] ++ ms = kl at *
    have HZ := Lib.hid hz
    clear hz
    have HOC := Lib.hid (OwnK.rd' hownc hl2)
    rw [hl2] at hcc ⊢
    clear hl2 hownc
    go_wp2_with fail
    refine (typed_any Ac (n + 1 + m) cc kl wc (by omega) HOC.out).mono ?_
    rintro e w5 ⟨v5, rfl, hown5, hb5⟩
    rw [HZ.out] at hown5 ⊢
    dsimp only at hown5 ⊢
    obtain ⟨A5, c5, rfl, _⟩ := own_form hown5
    have HO5 := Lib.hid hown5
    clear hown5
    have hz5 := hb5.size
    have hx2 : RdR w2 w2.heap.size A2 b.length b := Rd.of_own HO.out
    have hX : ∀ o, RdR (w5.alloc o) w5.heap.size A2 b.length b := fun o =>
      (Rd.more (((Rd.alloc hx2 (Nat.le_refl _) _).below (hbc.mono (by omega))).below (hb5.mono (by omega))) (by omega)).alloc (Nat.le_refl _) _
    have hY : ∀ o, RdR (w5.alloc o) w5.heap.size A5 b.length b := fun o => Rd.alloc (Rd.of_own HO5.out) (Nat.le_refl _) _
    have HX := Lib.hid hX
    have HY := Lib.hid hY
    clear hX hY hx2
    go_wp2_with fail
    refine (ref_same A2 A5 b.length b.length c2 c5 b b _ (by omega) (Rd.more (HX.out _) (by simp)) (Rd.more (HY.out _) (by simp))).mono ?_
    rintro e w6 ⟨rfl, k6, rfl⟩
    go_wp2
    go_ret
    refine ⟨ret_bool (by simp), ?_⟩
    exact below_drewN (((hbA.trans (hbc.mono (by omega))).trans (hb5.mono (by omega))).alloc (by omega) _) _
  · by_cases he1 : e1 = 0
    · subst he1
      by_cases he2 : e2 = 0
      · subst he2
        have h5 : 500 < n + m + 1 := by omega
        clear hcase
        go_enter Try.func5, Try.ntmps5
        go_wp2_with fail
        refine (live_alive w).mono ?_
        rintro e w0 ⟨rfl, hb0⟩
        have hz0' := hb0.size
        go_wp2_with fail
        refine (typed_any A n c ks w0 (by omega) ((HK.out.below hb0).more hz0')).mono ?_
        rintro e w1 ⟨v1, rfl, hown1, hb1⟩
        rw [HP.out] at hown1 ⊢
        dsimp only at hown1 ⊢
        clear hown1
        have hz1' := hb1.size
        go_wp2_with fail
        refine (typed_any C m d ms (w1.alloc (.cells #[.int .i64 0, .int .i64 x1] 31)) (by omega) ((((HR.out.below hb0).below (hb1.mono hz0')).alloc (by omega) _).more (by simp; omega))).mono ?_
        rintro e w2 ⟨v2, rfl, hown2, hb2⟩
        rw [HQ.out] at hown2 ⊢
        dsimp only at hown2 ⊢
        simp only [World.size_alloc] at hb2 hown2
        have hz2' := hb2.size
        simp only [World.size_alloc] at hz2'
        have r1 := (((Blk.new w1 31 #[.int .i64 0, .int .i64 x1]).below hb2 (by omega)).alloc (.cells #[.int .i64 0, .int .i64 x2] 31)).cell 0
        simp at r1
        have HO := Lib.hid hown2
        clear hown2
        have hbA : Below w.heap.size w (w2.alloc (.cells #[.int .i64 0, .int .i64 x2] 31)) := (((hb0.trans (hb1.mono hz0')).alloc (by omega) _).trans (hb2.mono (by omega))).alloc (by omega) _
        have HB := Lib.hid hbA
        clear hbA
        go_wp2
        go_ret
        exact ⟨rfl, HB.out⟩
      · have he : (e2 != 0) = true := by rw [bne_iff_ne]; exact he2
        clear he2 hcase hf2
        go_enter Try.func5, Try.ntmps5
        go_wp2_with fail
        refine (live_alive w).mono ?_
        rintro e w0 ⟨rfl, hb0⟩
        have hz0' := hb0.size
        go_wp2_with fail
        refine (typed_any A n c ks w0 (by omega) ((HK.out.below hb0).more hz0')).mono ?_
        rintro e w1 ⟨v1, rfl, hown1, hb1⟩
        rw [HP.out] at hown1 ⊢
        dsimp only at hown1 ⊢
        clear hown1
        have hz1' := hb1.size
        go_wp2_with fail
        refine (typed_any C m d ms (w1.alloc (.cells #[.int .i64 0, .int .i64 x1] 31)) (by omega) ((((HR.out.below hb0).below (hb1.mono hz0')).alloc (by omega) _).more (by simp; omega))).mono ?_
        rintro e w2 ⟨v2, rfl, hown2, hb2⟩
        rw [HQ.out] at hown2 ⊢
        dsimp only at hown2 ⊢
        simp only [World.size_alloc] at hb2 hown2
        have hz2' := hb2.size
        simp only [World.size_alloc] at hz2'
        have r1 := (((Blk.new w1 31 #[.int .i64 0, .int .i64 x1]).below hb2 (by omega)).alloc (.cells #[.int .i64 e2, .int .i64 x2] 31)).cell 0
        simp at r1
        have HO := Lib.hid hown2
        clear hown2
        have hbA : Below w.heap.size w (w2.alloc (.cells #[.int .i64 e2, .int .i64 x2] 31)) := (((hb0.trans (hb1.mono hz0')).alloc (by omega) _).trans (hb2.mono (by omega))).alloc (by omega) _
        have HB := Lib.hid hbA
        clear hbA
        go_wp2
        go_ret
        exact ⟨rfl, HB.out⟩
    · have he : (e1 != 0) = true := by rw [bne_iff_ne]; exact he1
      clear he1 hcase hf1
      go_enter Try.func5, Try.ntmps5
      go_wp2_with fail
      refine (live_alive w).mono ?_
      rintro e w0 ⟨rfl, hb0⟩
      have hz0' := hb0.size
      go_wp2_with fail
      refine (typed_any A n c ks w0 (by omega) ((HK.out.below hb0).more hz0')).mono ?_
      rintro e w1 ⟨v1, rfl, hown1, hb1⟩
      rw [HP.out] at hown1 ⊢
      dsimp only at hown1 ⊢
      clear hown1
      have hz1' := hb1.size
      go_wp2_with fail
      refine (typed_any C m d ms (w1.alloc (.cells #[.int .i64 e1, .int .i64 x1] 31)) (by omega) ((((HR.out.below hb0).below (hb1.mono hz0')).alloc (by omega) _).more (by simp; omega))).mono ?_
      rintro e w2 ⟨v2, rfl, hown2, hb2⟩
      rw [HQ.out] at hown2 ⊢
      dsimp only at hown2 ⊢
      simp only [World.size_alloc] at hb2 hown2
      have hz2' := hb2.size
      simp only [World.size_alloc] at hz2'
      have r1 := (((Blk.new w1 31 #[.int .i64 e1, .int .i64 x1]).below hb2 (by omega)).alloc (.cells #[.int .i64 e2, .int .i64 x2] 31)).cell 0
      simp at r1
      have HO := Lib.hid hown2
      clear hown2
      have hbA : Below w.heap.size w (w2.alloc (.cells #[.int .i64 e2, .int .i64 x2] 31)) := (((hb0.trans (hb1.mono hz0')).alloc (by omega) _).trans (hb2.mono (by omega))).alloc (by omega) _
      have HB := Lib.hid hbA
      clear hbA
      go_wp2
      go_ret
      exact ⟨rfl, HB.out⟩

end Go.Proofs.Ythgkgcdnidkckaa
