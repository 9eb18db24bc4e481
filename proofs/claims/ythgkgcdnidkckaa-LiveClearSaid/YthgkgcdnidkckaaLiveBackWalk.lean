/- The walk of scriptlaw21.LiveBack: for any keys and runes it returns true; nothing that was there is changed. -/
import Derived.Test.YthgkgcdnidkckaaLiveBack
namespace Go.Proofs.Ythgkgcdnidkckaa
open Go.RowKit

theorem Try.info36 : (Try.prog.info? 36).map (fun i => (i.zero, i.size, i.bytes)) = some (some (.agg #[.int .i64 0, .int .i32 0]), 2, 16) := by kernel_rfl

/-- A list of keys that the call owns. -/
def OwnK (w : World) (base : Nat) (v : Value) (l : List (Int × Int)) : Prop := w.ownsRow base 36 2 v l.length (keyCells l)
theorem OwnK.rd {w : World} {base : Nat} {A : Option Addr} {n c : Nat} {l : List (Int × Int)} (h : OwnK w base (.slice A n c) l) (hn : l.length = n) : RdK w w.heap.size A n l := by
  subst hn
  exact Rd.of_own h
theorem OwnK.rd' {w : World} {base : Nat} {A : Option Addr} {n c : Nat} {l : List (Int × Int)} (h : OwnK w base (.slice A l.length c) l) (hn : l.length = n) : RdK w w.heap.size A n l := by
  subst hn
  exact Rd.of_own h
theorem keyCells_append (a b : List (Int × Int)) : keyCells (a ++ b) = keyCells a ++ keyCells b := by simp [keyCells]
theorem keyCells_one (a : List (Int × Int)) : ∀ u ∈ keyCells a, u.oneCell' = true := by
  intro u hu
  simp only [keyCells, List.mem_flatMap] at hu
  obtain ⟨k, _, hk⟩ := hu
  simp at hk
  rcases hk with rfl | rfl <;> rfl
theorem OwnK.of {w w' : World} {base n : Nat} {v v' : Value} {xs : List Value} {l : List (Int × Int)}
    (h : Appended base 36 2 v w n xs v' w') (hn : l.length = n) (hx : keyCells l = xs) : OwnK w' base v' l := by
  subst hn hx
  exact h.own

def backList (ks : List (Int × Int)) (rs : List Int) (j : Nat) : List (Int × Int) := ks ++ (rs.take j).map fun r => (1, r)
theorem backList_len (ks : List (Int × Int)) (rs : List Int) (j : Nat) (h : j ≤ rs.length) : (backList ks rs j).length = ks.length + j := by simp [backList]; omega
theorem backList_succ (ks : List (Int × Int)) (rs : List Int) (j : Nat) (r : Int) (h : rs[j]? = some r) : keyCells (backList ks rs (j + 1)) = keyCells (backList ks rs j) ++ [.int .i64 1, .int .i32 r] := by
  obtain ⟨hj, rfl⟩ := List.getElem?_eq_some_iff.1 h
  unfold backList
  rw [List.take_succ_eq_append_getElem hj, List.map_append, ← List.append_assoc, keyCells_append]
  rfl
theorem backs_succ (l : List (Int × Int)) (j : Nat) : keyCells (l ++ List.replicate (j + 1) (2, 0)) = keyCells (l ++ List.replicate j (2, 0)) ++ [.int .i64 2, .int .i32 0] := by
  rw [List.replicate_succ', ← List.append_assoc, keyCells_append]
  rfl
theorem all_succ (rs : List Int) (j : Nat) (r : Int) (h : rs[j]? = some r) (ha : ∀ x ∈ rs.take j, rightB x = true) (hr : rightB r = true) : ∀ x ∈ rs.take (j + 1), rightB x = true := by
  obtain ⟨hj, rfl⟩ := List.getElem?_eq_some_iff.1 h
  intro x hx
  rw [List.take_succ_eq_append_getElem hj, List.mem_append] at hx
  rcases hx with hx | hx
  · exact ha x hx
  · simp at hx; subst hx; exact hr

def BackRel1 (b : Nat) (w2 : World) (ks : List (Int × Int)) (rs : List Int) (m : Nat) (v i : Value) (wr : World) : Prop :=
  ∃ j : Nat, j ≤ m ∧ i = .int .i64 j ∧ OwnK wr b v (backList ks rs j) ∧ (∀ r ∈ rs.take j, rightB r = true) ∧ Below b w2 wr
def BackRel2 (b : Nat) (w2 : World) (l : List (Int × Int)) (m : Nat) (v i : Value) (wr : World) : Prop :=
  ∃ j : Nat, j ≤ m ∧ i = .int .i64 j ∧ OwnK wr b v (l ++ List.replicate j (2, 0)) ∧ Below b w2 wr

set_option maxHeartbeats 800000 in
theorem live_back (A C : Option Addr) (n c m d : Nat) (ks : List (Int × Int)) (rs : List Int) (w : World) (hn : n ≤ 9223372036854775807) (hm : m ≤ 1152921504606846975)
    (hk : RdK w w.heap.size A n ks) (hr : RdR w w.heap.size C m rs) :
    Calls Try.prog 4 #[.slice A n c, .slice C m d] w fun e w' => e = .returned (.bool true) ∧ Below w.heap.size w w' := by
  obtain ⟨i0, hi, hz0, hz1, hz2⟩ := info_parts Try.info36
  obtain ⟨acc, er, at', hp⟩ : ∃ acc er at', typedP ks = (acc, er, at') := ⟨_, _, _, rfl⟩
  have HP := Lib.hid hp
  clear hp
  have HK := Lib.hid hk
  clear hk
  have HR := Lib.hid hr
  clear hr
  by_cases he : er = 0
  · subst he
    have hn5 : n ≤ 500 := by
      have h := HP.out
      have hl := HK.out.len
      unfold typedP at h
      split at h
      · simp at h
      · omega
    by_cases h5 : n + 2 * m ≤ 500
    · go_enter Try.func4, Try.ntmps4
      go_wp2_with fail
      refine (live_alive w).mono ?_
      rintro e w0 ⟨rfl, hb0⟩
      have hz0' := hb0.size
      go_wp2_with fail
      refine (typed_any A n c ks w0 hn ((HK.out.below hb0).more hz0')).mono ?_
      rintro e w1 ⟨v1, rfl, hown1, hb1⟩
      rw [HP.out] at hown1 ⊢
      dsimp only at hown1 ⊢
      obtain ⟨A1, c1, rfl, _⟩ := own_form hown1
      have hz1' := hb1.size
      have HO := Lib.hid hown1
      clear hown1
      have HQ := Lib.hid (show RdK ((w1.alloc (.cells #[.int .i64 0, .int .i64 at'] 31)).alloc (.cells #[] 36)) w.heap.size A n ks from ((((HK.out.below hb0).below (hb1.mono hz0')).alloc (by omega) _).alloc (by simp; omega) _))
      have HL := Lib.hid HK.out.len
      have HE := Lib.hid (own_empty (w1.alloc (.cells #[.int .i64 0, .int .i64 at'] 31)) 36 2 (w1.heap.size + 1) (w1.heap.size + 1) (by simp) (Nat.le_refl _))
      clear HK
      go_wp2_with (at_builtin; refine wpList_append_rd _ rfl (.tmp 30) (.tmp 31) 28 rfl (w1.heap.size + 1) 36 i0 _ 2 16 Try.underlying28 hi hz0 hz1 hz2 rfl (by decide) (.slice (some ⟨w1.heap.size + 1, 0, none⟩) 0 0) 0 [] rfl ?o1 w.heap.size A n c (keyCells ks) rfl HQ.out (keyCells_one _) (by simp only [maxLen]; omega) (by omega) (by simp) ?_)
      case o1 => exact HE.out
      intro v' w3 happ
      have hown3 : OwnK w3 (w1.heap.size + 1) v' ks := OwnK.of happ HL.out rfl
      have hb3 : Below (w1.heap.size + 1) (w1.alloc (.cells #[.int .i64 0, .int .i64 at'] 31)) w3 :=
        ((Below.refl _ _).alloc (by simp) _).trans (happ.below (m := 0) (ys := []) (by simp) HE.out)
      clear happ
      go_wp2
      go_loopw [7, 35] (BackRel1 (w1.heap.size + 1) (w1.alloc (.cells #[.int .i64 0, .int .i64 at'] 31)) ks rs m) (fun _ i _ => m - (intOf i).toNat)
      case atStart => exact ⟨0, Nat.zero_le _, rfl, by simpa [backList] using hown3, by simp, hb3⟩
      case round =>
        obtain ⟨j, hj, rfl, hown, hall, hbel⟩ := hrel
        have hzr := hbel.size
        simp only [World.size_alloc] at hzr
        have hbw : Below w.heap.size w wr := ((hb0.trans (hb1.mono hz0')).alloc (by omega) _).trans (hbel.mono (by omega))
        have hlen := backList_len ks rs j (by rw [HR.out.len]; exact hj)
        rw [HL.out] at hlen
        clear hown3 hb3
        have HA := Lib.hid hall
        clear hall
        by_cases hlt : j < m
        · obtain ⟨b, off, rfl, hbb, hcell⟩ := HR.out.at hlt
          obtain ⟨r, hr⟩ : ∃ r, rs[j]? = some r := ⟨_, List.getElem?_eq_getElem (by rw [HR.out.len]; exact hlt)⟩
          rw [List.getD, hr, Option.getD_some] at hcell
          have hcr := (hbw.cell (p := ⟨b, off + j, none⟩) hbb).trans hcell
          clear hcell
          have hk1 := backList_succ ks rs j r hr
          have hl1 := backList_len ks rs (j + 1) (by rw [HR.out.len]; exact hlt)
          rw [HL.out] at hl1
          generalize backList ks rs j = kl at *
          have HS := Lib.hid hk1
          have HL1 := Lib.hid hl1
          have HR1 := Lib.hid hr
          clear hk1 hl1 hr
          obtain ⟨A7, c7, rfl, hc7⟩ := own_form hown
          rw [hlen] at hc7
          have HO7 := Lib.hid hown
          have HLN := Lib.hid hlen
          rw [hlen]
          clear hown hlen
          cases hrb : rightB r
          · go_wp2_with (go_at_call 11; refine (ref_right _ _).mono ?_; rintro e w' ⟨rfl, rfl⟩)
            go_ret
            exact ⟨rfl, hbw⟩
          · have HN := Lib.hid (Rd.new wr 36 2 1 [.int .i64 1, .int .i32 r] rfl)
            have HOA := Lib.hid (World.ownsRow.alloc HO7.out (.cells #[.int .i64 1, .int .i32 r] 36))
            rw [HLN.out] at HOA
            go_wp2_with (first | (go_at_call 11; refine (ref_right _ _).mono ?_; rintro e w' ⟨rfl, rfl⟩) | (at_builtin; refine wpList_append_rd _ rfl (.tmp 42) (.tmp 45) 28 rfl (w1.heap.size + 1) 36 i0 _ 2 16 Try.underlying28 hi hz0 hz1 hz2 rfl (by decide) _ _ _ rfl HOA.out (wr.heap.size + 1) (some ⟨wr.heap.size, 0, none⟩) 1 1 [.int .i64 1, .int .i32 r] rfl HN.out ?s1 (by simp only [maxLen]; omega) (by omega) (by simp; omega) ?_))
            case s1 => intro u hu; simp at hu; rcases hu with rfl | rfl <;> rfl
            intro v' w4 happ
            have hown4 : OwnK w4 (w1.heap.size + 1) v' (backList ks rs (j + 1)) := OwnK.of happ (by rw [HL1.out]; omega) HS.out
            have hb4 : Below (w1.heap.size + 1) (w1.alloc (.cells #[.int .i64 0, .int .i64 at'] 31)) w4 := (hbel.alloc (by omega) _).trans (happ.below (by simp; omega) HOA.out)
            clear happ
            have hall4 := all_succ rs j r HR1.out HA.out hrb
            go_wp2
            exact ⟨⟨j + 1, by omega, by go_num, hown4, hall4, hb4⟩, by simp [intOf]; omega⟩
        · obtain rfl : j = m := by omega
          clear hlt
          have hLaw := back_law ks rs acc at' HP.out (by rw [HL.out, HR.out.len]; exact h5) (fun r hr => HA.out r (by rw [List.take_of_length_le (by rw [HR.out.len]; omega)]; exact hr))
          have eB : backList ks rs j = ks ++ rs.map (fun r => (1, r)) := by unfold backList; rw [List.take_of_length_le (by rw [HR.out.len]; omega)]
          rw [← eB, HR.out.len] at hLaw
          generalize backList ks rs j = kl at *
          have HLAW := Lib.hid hLaw
          clear hLaw eB HA HR
          obtain ⟨A7, c7, rfl, hc7⟩ := own_form hown
          rw [hlen] at hc7
          have HLN := Lib.hid hlen
          rw [hlen]
          clear hlen
          go_wp2
          obtain ⟨wo, rfl⟩ : ∃ wo : World, wo = wr := ⟨_, rfl⟩
          go_loopw [7, 50] (BackRel2 (w1.heap.size + 1) (w1.alloc (.cells #[.int .i64 0, .int .i64 at'] 31)) kl j) (fun _ i _ => j - (intOf i).toNat)
          case atStart => exact ⟨0, Nat.zero_le _, rfl, by simpa [HLN.out] using hown, hbel⟩
          case round =>
            clear hbel hbw hown hzr
            obtain ⟨q, hq, rfl, hown, hbel⟩ := hrel
            have hzr := hbel.size
            simp only [World.size_alloc] at hzr
            have hbw := ((hb0.trans (hb1.mono hz0')).alloc (Nat.le_trans hz0' hz1') (.cells #[.int .i64 0, .int .i64 at'] 31)).trans (hbel.mono (by omega))
            have hk1 := backs_succ kl q
            have hlq : (kl ++ List.replicate q (2, 0)).length = n + j + q := by simp [HLN.out]
            have hl1 : (kl ++ List.replicate (q + 1) (2, 0)).length = n + j + (q + 1) := by simp [HLN.out]
            by_cases hlt : q < j
            · generalize kl ++ List.replicate q (2, 0) = kq at *
              have HS := Lib.hid hk1
              have HL1 := Lib.hid hl1
              clear hk1 hl1
              obtain ⟨A8, c8, rfl, hc8⟩ := own_form hown
              rw [hlq] at hc8
              have HO7 := Lib.hid hown
              have HLQ := Lib.hid hlq
              rw [hlq]
              clear hown hlq
              have HN := Lib.hid (Rd.new wr 36 2 1 [.int .i64 2, .int .i32 0] rfl)
              have HOA := Lib.hid (World.ownsRow.alloc HO7.out (.cells #[.int .i64 2, .int .i32 0] 36))
              rw [HLQ.out] at HOA
              go_wp2_with (at_builtin; refine wpList_append_rd _ rfl (.tmp 52) (.tmp 54) 28 rfl (w1.heap.size + 1) 36 i0 _ 2 16 Try.underlying28 hi hz0 hz1 hz2 rfl (by decide) _ _ _ rfl HOA.out (wr.heap.size + 1) (some ⟨wr.heap.size, 0, none⟩) 1 1 [.int .i64 2, .int .i32 0] rfl HN.out ?s2 (by simp only [maxLen]; omega) (by omega) (by simp; omega) ?_)
              case s2 => intro u hu; simp at hu; rcases hu with rfl | rfl <;> rfl
              intro v' w4 happ
              have hown4 : OwnK w4 (w1.heap.size + 1) v' (kl ++ List.replicate (q + 1) (2, 0)) := OwnK.of happ (by rw [HL1.out]; omega) HS.out
              have hb4 : Below (w1.heap.size + 1) (w1.alloc (.cells #[.int .i64 0, .int .i64 at'] 31)) w4 := (hbel.alloc (by omega) _).trans (happ.below (by simp; omega) HOA.out)
              clear happ
              go_wp2
              exact ⟨⟨q + 1, by omega, by go_num, hown4, hb4⟩, by simp [intOf]; omega⟩
            · obtain rfl : q = j := by omega
              clear hlt hk1 hl1
              generalize kl ++ List.replicate q (2, 0) = kq at *
              obtain ⟨A8, c8, rfl, hc8⟩ := own_form hown
              rw [hlq] at hc8
              have HO7 := Lib.hid hown
              have HLQ := Lib.hid hlq
              rw [hlq]
              clear hown hlq
              go_wp2_with fail
              refine (typed_any A8 (n + q + q) c8 kq wr (by omega) (HO7.out.rd' HLQ.out)).mono ?_
              rintro e w5 ⟨v5, rfl, hown5, hb5⟩
              rw [HLAW.out] at hown5 ⊢
              dsimp only at hown5 ⊢
              obtain ⟨A5, c5, rfl, _⟩ := own_form hown5
              have hF : Blk w5 w1.heap.size 31 #[.int .i64 0, .int .i64 at'] := ((Blk.new _ _ _).below hbel (by omega)).below hb5 (by omega)
              have r1 := hF.cell 0
              have r2 := hF.cell 1
              have r3 := hF.frozen 0
              have r4 := hF.frozen 1
              simp at r1 r2
              have HO5 := Lib.hid hown5
              clear hown5
              have hw5 := hb5.size
              have hx1 : RdR w1 w1.heap.size A1 acc.length acc := Rd.of_own HO.out
              have hx5 : RdR w5 w1.heap.size A1 acc.length acc := ((Rd.alloc hx1 (Nat.le_refl _) _).below (hbel.mono (by omega))).below (hb5.mono (by omega))
              have hy5 : RdR w5 w5.heap.size A5 acc.length acc := Rd.of_own HO5.out
              have hX : RdR ((w5.setCell ⟨w1.heap.size, 0, none⟩ (.int .i64 0)).setCell ⟨w1.heap.size, 1, none⟩ (.int .i64 0)) w5.heap.size A1 acc.length acc :=
                Rd.more (Rd.setCell (Rd.setCell hx5 (Nat.le_refl _) _) (Nat.le_refl _) _) (by omega)
              have hO2 : OwnR ((w5.setCell ⟨w1.heap.size, 0, none⟩ (.int .i64 0)).setCell ⟨w1.heap.size, 1, none⟩ (.int .i64 0)) wr.heap.size (.slice A5 acc.length c5) acc :=
                ownsRow_setCell_below (ownsRow_setCell_below HO5.out (by simp; omega) _) (by simp; omega) _
              have hY : RdR ((w5.setCell ⟨w1.heap.size, 0, none⟩ (.int .i64 0)).setCell ⟨w1.heap.size, 1, none⟩ (.int .i64 0)) w5.heap.size A5 acc.length acc := by
                have := Rd.of_own hO2
                unfold RdR
                simpa using this
              have hacc : acc.length ≤ 9223372036854775807 := by
                have h := typedGo_len ks [] 0
                have hp := HP.out
                unfold typedP at hp
                split at hp
                · simp at hp
                · rw [hp] at h; rw [HL.out] at h; simp at h; omega
              have HX := Lib.hid hX
              have HY := Lib.hid hY
              clear hx1 hx5 hy5 hX hY hO2
              have HB5 := Lib.hid hb5
              clear hb5
              go_wp2_with fail
              refine (ref_same A1 A5 acc.length acc.length c1 c5 acc acc _ hacc (by simpa using HX.out) (by simpa using HY.out)).mono ?_
              rintro e w6 ⟨rfl, k6, rfl⟩
              go_wp2
              go_ret
              refine ⟨ret_bool (by simp), ?_⟩
              exact below_drewN (((hbw.trans (HB5.out.mono (by omega))).setCell (by simp; omega) _).setCell (by simp; omega) _) _
    · go_enter Try.func4, Try.ntmps4
      go_wp2_with fail
      refine (live_alive w).mono ?_
      rintro e w0 ⟨rfl, hb0⟩
      have hz0' := hb0.size
      go_wp2_with fail
      refine (typed_any A n c ks w0 hn ((HK.out.below hb0).more hz0')).mono ?_
      rintro e w1 ⟨v1, rfl, hown1, hb1⟩
      rw [HP.out] at hown1 ⊢
      dsimp only at hown1 ⊢
      have HO := Lib.hid hown1
      clear hown1
      go_wp2
      go_ret
      exact ⟨rfl, (hb0.trans (hb1.mono hz0')).alloc (by have := hb1.size; omega) _⟩
  · have heb : (er != 0) = true := by rw [bne_iff_ne]; exact he
    clear he
    go_enter Try.func4, Try.ntmps4
    go_wp2_with fail
    refine (live_alive w).mono ?_
    rintro e w0 ⟨rfl, hb0⟩
    have hz0' := hb0.size
    go_wp2_with fail
    refine (typed_any A n c ks w0 hn ((HK.out.below hb0).more hz0')).mono ?_
    rintro e w1 ⟨v1, rfl, hown1, hb1⟩
    rw [HP.out] at hown1 ⊢
    dsimp only at hown1 ⊢
    have HO := Lib.hid hown1
    clear hown1
    go_wp2
    go_ret
    exact ⟨rfl, (hb0.trans (hb1.mono hz0')).alloc (by have := hb1.size; omega) _⟩

end Go.Proofs.Ythgkgcdnidkckaa
