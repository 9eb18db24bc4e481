/- The walk of scriptref17.Split: it tells splitP. -/
import Derived.Test.YtfmebbnccjaadaaWordSplit
import Derived.Test.YtfmebbnccjaadaaHeldTill
namespace Go.Proofs.Ytfmebbnccjaadaa
open Go.RowKit

def RefSpRel (w : World) (bs : List Bool) (n : Nat) (out from_ i_ : Value) (wr : World) : Prop :=
  ∃ (i a m : Nat) (ws : List WordD), 1 ≤ i ∧ i ≤ n + 1 ∧ i_ = .int .i64 i ∧ from_ = .int .i64 a ∧ ws.length = m ∧ m ≤ i ∧ wr.ownsRow w.heap.size 69 3 out m (wordCells ws) ∧ Below w.heap.size w wr ∧
    ((i ≤ n ∧ a < i ∧ ∃ b, bs[a]? = some b ∧ bs[i - 1]? = some b ∧ wordsP bs = ws ++ runW a i b (bs.drop i)) ∨ (n < i ∧ wordsP bs = ws))

set_option maxRecDepth 100000 in
set_option maxHeartbeats 6400000 in
theorem ref17_split (A At : Option Addr) (n c nt ct : Nat) (s : Spans) (t : List Int) (w : World) (hn : n ≤ 9223372036854775807) (hs : RdS w w.heap.size A n s) (hnt : nt ≤ maxLen) (ht : RdR w w.heap.size At nt t) :
    Calls Try.prog 33 #[.slice A n c, .slice At nt ct] w fun e w' => WsPost w.heap.size w' (splitP s t) e ∧ Below w.heap.size w w' := by
  obtain ⟨i1, hi1, z0, z1, z2⟩ := info_parts infoWord
  have HS := Lib.hid (fun (W : World) (hb : Below w.heap.size w W) => show RdS W W.heap.size A n s from (Rd.below hs hb).more hb.size)
  have HT := Lib.hid (fun (W : World) (hb : Below w.heap.size w W) => show RdR W W.heap.size At nt t from (Rd.below ht hb).more hb.size)
  have HTW := Lib.hid ht
  have HTL := Lib.hid (show t.length = nt from ht.len)
  have HP := Lib.hid (ref2_wrong A n c s w hn hs)
  have HQ := Lib.hid (fun (W : World) (hb : Below w.heap.size w W) => ref7_text At nt ct t W hnt (HT.out W hb))
  clear hs ht
  obtain ⟨f1, hf1⟩ : ∃ f, wrongP s = f := ⟨_, rfl⟩
  have HF1 := Lib.hid hf1
  rw [hf1] at HP
  clear hf1
  go_enter Try.func33, Try.ntmps33
  go_wp2_with fail
  refine HP.out.mono ?_
  rintro e w1 ⟨rfl, hb1⟩
  have HB1 := Lib.hid hb1
  clear hb1 HP
  by_cases hz : f1 = 0
  · subst hz
    obtain ⟨f2, hf2⟩ : ∃ f, textP t = f := ⟨_, rfl⟩
    have HF2 := Lib.hid hf2
    go_wp2_with fail
    refine (HQ.out w1 HB1.out).mono ?_
    rintro e w2 ⟨rfl, hb2⟩
    have HB2 := Lib.hid (HB1.out.trans (hb2.mono HB1.out.size))
    rw [hf2]
    clear hb2 hf2 HB1 HQ
    by_cases hz : f2 = 0
    · subst hz
      have HG := Lib.hid (show splitP s t = (wordsP (t.map (hasP s)), 0) by unfold splitP; rw [HF1.out, HF2.out, if_neg (fun h => h rfl), if_neg (fun h => h rfl)])
      have hnt4 : nt ≤ 4000 := by have := (textP_len' HF2.out); have := HTL.out; omega
      have HBL := Lib.hid (show (t.map (hasP s)).length = nt by rw [List.length_map]; exact HTL.out)
      have hw2 := HB2.out.size
      have HST0 := Lib.hid (show (1 ≤ nt ∧ 0 < 1 ∧ ∃ b, (t.map (hasP s))[0]? = some b ∧ (t.map (hasP s))[1 - 1]? = some b ∧ wordsP (t.map (hasP s)) = [] ++ runW 0 1 b ((t.map (hasP s)).drop 1)) ∨ (nt < 1 ∧ wordsP (t.map (hasP s)) = []) by
        have hl := HBL.out
        generalize t.map (hasP s) = bs at hl ⊢
        cases bs with
        | nil => exact .inr ⟨by simp at hl; omega, rfl⟩
        | cons b bs => exact .inl ⟨by simp at hl; omega, by omega, b, rfl, rfl, rfl⟩)
      go_wp2_with fail
      go_loopw [8, 9, 10] (RefSpRel w (t.map (hasP s)) nt) (fun _ _ i _ => nt + 1 - (intOf i).toNat)
      case atStart => exact ⟨1, 0, 0, [], Nat.le_refl _, by omega, rfl, rfl, rfl, Nat.zero_le _, World.ownsRow_nil _ _ _ _, HB2.out, HST0.out⟩
      case round =>
        obtain ⟨i, a, m, ws, hi0, hi1', rfl, rfl, hm, hmi, ho, hb, hst⟩ := hrel
        have HM := Lib.hid hm
        have HO := Lib.hid ho
        have HB := Lib.hid hb
        have hz := hb.size
        obtain ⟨Ao, co, rfl, _⟩ := own_form ho
        by_cases hlt : i ≤ nt
        · have hst2 : (i ≤ nt ∧ a < i ∧ ∃ b, (t.map (hasP s))[a]? = some b ∧ (t.map (hasP s))[i - 1]? = some b ∧ wordsP (t.map (hasP s)) = ws ++ runW a i b ((t.map (hasP s)).drop i)) := by
            rcases hst with h | ⟨h, _⟩
            · exact h
            · exact absurd h (by omega)
          obtain ⟨_, hai, b, hba, hbi, hrun⟩ := hst2
          clear hst
          have HRUN := Lib.hid hrun
          obtain ⟨b1, o1, rfl, hbb, hcc⟩ := HTW.out.2 (by omega)
          obtain ⟨y, hy⟩ : ∃ y, t[i - 1]? = some y := ⟨_, List.getElem?_eq_getElem (by rw [HTL.out]; omega)⟩
          obtain ⟨z, hz0⟩ : ∃ z, t[a]? = some z := ⟨_, List.getElem?_eq_getElem (by rw [HTL.out]; omega)⟩
          have hyb : hasP s y = b := by simpa [hy] using hbi
          have hzb : hasP s z = b := by simpa [hz0] using hba
          have HDZ := Lib.hid (fun (W : World) (hb : Below w.heap.size w W) => show W.cell? ⟨b1, o1 + a, none⟩ = some (.int .i32 z) from (hb.cell (p := ⟨b1, o1 + a, none⟩) hbb).trans (hcc a _ (by simp [runeCells, hz0])))
          have HHZ := Lib.hid (fun (W : World) (hb : Below w.heap.size w W) => show Calls Try.prog 67 #[.slice A n c, .int .i32 z] W fun e w' => e = .returned (.bool b) ∧ Below W.heap.size W w' by
            have h := ref2_has A n c s z W hn (HS.out W hb)
            rwa [hzb] at h)
          have dy : wr.cell? ⟨b1, o1 + (i - 1), none⟩ = some (.int .i32 y) := (hb.cell (p := ⟨b1, o1 + (i - 1), none⟩) hbb).trans (hcc (i - 1) _ (by simp [runeCells, hy]))
          have hbr : b1 < wr.heap.size := by omega
          have ha0 : (0 : Int) ≤ (a : Int) := by omega
          have ha1 : (a : Int) < (nt : Int) := by omega
          have HBB := Lib.hid hba
          by_cases hlt2 : i < nt
          · obtain ⟨x, hx⟩ : ∃ x, t[i]? = some x := ⟨_, List.getElem?_eq_getElem (by rw [HTL.out]; omega)⟩
            have dx : wr.cell? ⟨b1, o1 + i, none⟩ = some (.int .i32 x) := (hb.cell (p := ⟨b1, o1 + i, none⟩) hbb).trans (hcc i _ (by simp [runeCells, hx]))
            obtain ⟨d, hd⟩ : ∃ d, hasP s x = d := ⟨_, rfl⟩
            have hbx : (t.map (hasP s))[i]? = some d := by simp [hx, hd]
            have HBI := Lib.hid hbx
            have HDR := Lib.hid (show (t.map (hasP s)).drop i = d :: (t.map (hasP s)).drop (i + 1) from drop_at hbx)
            have HH1 := Lib.hid (fun (W : World) (hb : Below wr.heap.size wr W) => show Calls Try.prog 67 #[.slice A n c, .int .i32 x] W fun e w' => e = .returned (.bool d) ∧ Below W.heap.size W w' by
              have h := ref2_has A n c s x W hn (HS.out W (HB.out.trans (hb.mono HB.out.size)))
              rwa [hd] at h)
            have HH2 := Lib.hid (fun (W : World) (hb : Below wr.heap.size wr W) => show Calls Try.prog 67 #[.slice A n c, .int .i32 y] W fun e w' => e = .returned (.bool b) ∧ Below W.heap.size W w' by
              have h := ref2_has A n c s y W hn (HS.out W (HB.out.trans (hb.mono HB.out.size)))
              rwa [hyb] at h)
            have hg : decide ((i : Int) < (nt : Int)) = true := decide_eq_true (by omega)
            have v1 : IntKind.i64.wrap ((i : Int) - 1) = (i : Int) - 1 := IntWalk.i64_in _ (by omega)
            have v2 : ((i : Int) - 1).toNat = i - 1 := by omega
            have v3 : (0 : Int) ≤ (i : Int) - 1 := by omega
            have v4 : (i : Int) - 1 < (nt : Int) := by omega
            have v5 : (i : Int) < (nt : Int) := by omega
            have v6 : (0 : Int) ≤ (i : Int) := by omega
            have v7 : (1 : Int) ≤ (i : Int) := by omega
            have HBr := Lib.hid (show Below wr.heap.size wr wr.drew from (Below.refl _ _).drew)
            clear hx hy hz0 hyb hzb hcc hd hbx hba hbi hrun hb ho hm
            go_upto_region 12 with fail
            refine wp_region_till (S := (fun w' => w'.cell? ⟨b1, o1 + i, none⟩ = some (.int .i32 x) ∧ w'.cell? ⟨b1, o1 + (i - 1), none⟩ = some (.int .i32 y))) [9, 16] (by kernel_rfl) ⟨dx, dy⟩ (fun hHeld => ?_)
            refine wpTill_pure (i := 0) (oi := ⟨some 27, _, _, _, _, _⟩) (v := ?_) rfl (by kernel_rfl) (by kernel_rfl) (by kernel_rfl) (fun _ _ _ h => h) (Or.inl ⟨by rfl, ?_⟩) ?_
            rotate_left 1
            · intro wq _
              go_simp
              try with_reducible rfl
            try simp only [Act.put, List.setIfInBounds_toArray, List.set_cons_zero, List.set_cons_succ]
            refine wpTill_pure (i := 1) (oi := ⟨some 28, _, _, _, _, _⟩) (v := ?_) rfl (by kernel_rfl) (by kernel_rfl) (by kernel_rfl) (fun _ _ _ h => h) (Or.inl ⟨by rfl, ?_⟩) ?_
            rotate_left 1
            · intro wq _
              go_simp
              try with_reducible rfl
            try simp only [Act.put, List.setIfInBounds_toArray, List.set_cons_zero, List.set_cons_succ]
            refine wpTill_pure (i := 2) (oi := ⟨some 29, _, _, _, _, _⟩) (v := ?_) rfl (by kernel_rfl) (by kernel_rfl) (by kernel_rfl) (fun _ _ _ h => h) (Or.inl ⟨by rfl, ?_⟩) ?_
            rotate_left 1
            · intro wq _
              go_simp
              try with_reducible rfl
            try simp only [Act.put, List.setIfInBounds_toArray, List.set_cons_zero, List.set_cons_succ]
            refine wpTill_pure (i := 3) (oi := ⟨some 30, _, _, _, _, _⟩) (v := ?_) rfl (by kernel_rfl) (by kernel_rfl) (by kernel_rfl) (fun _ _ _ h => h) (Or.inl ⟨by rfl, ?_⟩) ?_
            rotate_left 1
            · intro wq _
              go_simp
              try with_reducible rfl
            try simp only [Act.put, List.setIfInBounds_toArray, List.set_cons_zero, List.set_cons_succ]
            refine wpTill_pure (i := 4) (oi := ⟨some 31, _, _, _, _, _⟩) (v := ?_) rfl (by kernel_rfl) (by kernel_rfl) (by kernel_rfl) (fun _ _ _ h => h) (Or.inl ⟨by rfl, ?_⟩) ?_
            rotate_left 1
            · intro wq _
              go_simp
              try with_reducible rfl
            try simp only [Act.put, List.setIfInBounds_toArray, List.set_cons_zero, List.set_cons_succ]
            refine wpTill_pure (i := 5) (oi := ⟨some 32, _, _, _, _, _⟩) (v := ?_) rfl (by kernel_rfl) (by kernel_rfl) (by kernel_rfl) (fun _ _ _ h => h) (Or.inl ⟨by rfl, ?_⟩) ?_
            rotate_left 1
            · intro wq _
              go_simp
              try with_reducible rfl
            try simp only [Act.put, List.setIfInBounds_toArray, List.set_cons_zero, List.set_cons_succ]
            refine wpTill_pure (i := 6) (oi := ⟨some 33, _, _, _, _, _⟩) (v := ?_) rfl (by kernel_rfl) (by kernel_rfl) (by kernel_rfl) (fun _ _ _ h => h) (Or.inl ⟨by rfl, ?_⟩) ?_
            rotate_left 1
            · intro wq _
              go_simp
              try with_reducible rfl
            try simp only [Act.put, List.setIfInBounds_toArray, List.set_cons_zero, List.set_cons_succ]
            refine wpTill_pure (i := 7) (oi := ⟨some 34, _, _, _, _, _⟩) (v := ?_) rfl (by kernel_rfl) (by kernel_rfl) (by kernel_rfl) (fun _ _ _ h => h) (Or.inl ⟨by rfl, ?_⟩) ?_
            rotate_left 1
            · intro wq _
              go_simp
              try with_reducible rfl
            try simp only [Act.put, List.setIfInBounds_toArray, List.set_cons_zero, List.set_cons_succ]
            refine wpTill_pure (i := 8) (oi := ⟨some 35, _, _, _, _, _⟩) (v := ?_) rfl (by kernel_rfl) (by kernel_rfl) (by kernel_rfl) (fun _ _ _ h => h) (Or.inl ⟨by rfl, ?_⟩) ?_
            rotate_left 1
            · intro wq _
              go_simp
              try with_reducible rfl
            try simp only [Act.put, List.setIfInBounds_toArray, List.set_cons_zero, List.set_cons_succ]
            refine wpTill_take (i := 9) (oi := ⟨some 36, _, _, _, _, _⟩) (v := ?_) rfl (by kernel_rfl) (by kernel_rfl) (by kernel_rfl) (by kernel_rfl) (by kernel_rfl) (fun _ _ _ h => h) (Or.inl ⟨by rfl, ?_⟩) (by assumption) ?_
            rotate_left 1
            · intro wq hSw
              (try dsimp only at hSw)
              go_simp
              try with_reducible rfl
            try simp only [Act.put, List.setIfInBounds_toArray, List.set_cons_zero, List.set_cons_succ]
            refine wpTill_pure (i := 11) (oi := ⟨some 38, _, _, _, _, _⟩) (v := ?_) rfl (by kernel_rfl) (by kernel_rfl) (by kernel_rfl) (fun _ _ _ h => h) (Or.inl ⟨by rfl, ?_⟩) ?_
            rotate_left 1
            · intro wq _
              go_simp
              try with_reducible rfl
            try simp only [Act.put, List.setIfInBounds_toArray, List.set_cons_zero, List.set_cons_succ]
            refine wpTill_pure (i := 12) (oi := ⟨some 39, _, _, _, _, _⟩) (v := ?_) rfl (by kernel_rfl) (by kernel_rfl) (by kernel_rfl) (fun _ _ _ h => h) (Or.inl ⟨by rfl, ?_⟩) ?_
            rotate_left 1
            · intro wq _
              go_simp
              try with_reducible rfl
            try simp only [Act.put, List.setIfInBounds_toArray, List.set_cons_zero, List.set_cons_succ]
            refine wpTill_pure (i := 13) (oi := ⟨some 40, _, _, _, _, _⟩) (v := ?_) rfl (by kernel_rfl) (by kernel_rfl) (by kernel_rfl) (fun _ _ _ h => h) (Or.inl ⟨by rfl, ?_⟩) ?_
            rotate_left 1
            · intro wq _
              go_simp
              try with_reducible rfl
            try simp only [Act.put, List.setIfInBounds_toArray, List.set_cons_zero, List.set_cons_succ]
            refine wpTill_pure (i := 14) (oi := ⟨some 41, _, _, _, _, _⟩) (v := ?_) rfl (by kernel_rfl) (by kernel_rfl) (by kernel_rfl) (fun _ _ _ h => h) (Or.inl ⟨by rfl, ?_⟩) ?_
            rotate_left 1
            · intro wq _
              go_simp
              try with_reducible rfl
            try simp only [Act.put, List.setIfInBounds_toArray, List.set_cons_zero, List.set_cons_succ]
            refine wpTill_pure (i := 15) (oi := ⟨some 42, _, _, _, _, _⟩) (v := ?_) rfl (by kernel_rfl) (by kernel_rfl) (by kernel_rfl) (fun _ _ _ h => h) (Or.inl ⟨by rfl, ?_⟩) ?_
            rotate_left 1
            · intro wq _
              go_simp
              try with_reducible rfl
            try simp only [Act.put, List.setIfInBounds_toArray, List.set_cons_zero, List.set_cons_succ]
            refine wpTill_take (i := 16) (oi := ⟨some 43, _, _, _, _, _⟩) (v := ?_) rfl (by kernel_rfl) (by kernel_rfl) (by kernel_rfl) (by kernel_rfl) (by kernel_rfl) (fun _ _ _ h => h) (Or.inl ⟨by rfl, ?_⟩) (by assumption) ?_
            rotate_left 1
            · intro wq hSw
              (try dsimp only at hSw)
              go_simp
              try with_reducible rfl
            try simp only [Act.put, List.setIfInBounds_toArray, List.set_cons_zero, List.set_cons_succ]
            refine wpTill_one (i := 10) (o := ⟨some 37, _, _, _, _, _⟩) (by kernel_rfl) rfl (fun K hK => ?_)
            go_simp
            go_at_call 67
            refine (HH1.out _ HBr.out).mono ?_
            rintro e w7 ⟨rfl, hb7⟩
            have HB7 := Lib.hid (HBr.out.trans (hb7.mono HBr.out.size))
            clear hb7
            try dsimp only
            refine hK.out _ _ ?_ (fun hHeld => ?_)
            · exact ⟨(HB7.out.cell (p := ⟨b1, o1 + i, none⟩) hbr).trans dx, (HB7.out.cell (p := ⟨b1, o1 + (i - 1), none⟩) hbr).trans dy⟩
            clear hK K
            try simp only [Act.put, List.setIfInBounds_toArray, List.set_cons_zero, List.set_cons_succ]
            refine wpTill_late (i := 17) (o := ⟨some 44, _, _, _, _, _⟩) (by kernel_rfl) rfl (by kernel_rfl) (fun K hK => ?_)
            go_simp
            go_at_call 67
            refine (HH2.out _ HB7.out).mono ?_
            rintro e w8 ⟨rfl, hb8⟩
            have HB8 := Lib.hid (HB7.out.trans (hb8.mono HB7.out.size))
            clear hb8
            try dsimp only
            refine hK.out _ _ ?_
            clear hK K
            try simp only [Act.put, List.setIfInBounds_toArray, List.set_cons_zero, List.set_cons_succ]
            refine wpTill_pure (i := 18) (oi := ⟨some 45, _, _, _, _, _⟩) (v := ?_) rfl (by kernel_rfl) (by kernel_rfl) (by kernel_rfl) (fun _ _ _ h => h) (Or.inl ⟨by rfl, ?_⟩) ?_
            rotate_left 1
            · intro wq _
              go_simp
              try with_reducible rfl
            try simp only [Act.put, List.setIfInBounds_toArray, List.set_cons_zero, List.set_cons_succ]
            refine wpTill_pure (i := 19) (oi := ⟨some 46, _, _, _, _, _⟩) (v := ?_) rfl (by kernel_rfl) (by kernel_rfl) (by kernel_rfl) (fun _ _ _ h => h) (Or.inl ⟨by rfl, ?_⟩) ?_
            rotate_left 1
            · intro wq _
              go_simp
              try with_reducible rfl
            try simp only [Act.put, List.setIfInBounds_toArray, List.set_cons_zero, List.set_cons_succ]
            refine wpTill_done (by kernel_rfl) ?_ _
            go_simp
            have HB8' := Lib.hid (HB.out.trans (HB8.out.mono HB.out.size))
            have HO8 := Lib.hid (own_below HO.out HB8.out)
            clear dx dy v1 v2 v3 v4 v5 v6 v7 hg HBr HB7
            cases d <;> cases b
            · have HR2 := Lib.hid (show wordsP (t.map (hasP s)) = ws ++ runW a (i + 1) false ((t.map (hasP s)).drop (i + 1)) by rw [HRUN.out, HDR.out, runW_same rfl])
              go_wp2_with fail
              exact ⟨⟨i + 1, a, m, ws, by omega, by omega, by go_num, rfl, HM.out, by omega, HO8.out, HB8'.out, .inl ⟨by omega, by omega, false, HBB.out, by rw [Nat.add_sub_cancel]; exact HBI.out, HR2.out⟩⟩, by simp [intOf]; omega⟩
            · have HR2 := Lib.hid (show wordsP (t.map (hasP s)) = (ws ++ [⟨a, i, true⟩]) ++ runW i (i + 1) false ((t.map (hasP s)).drop (i + 1)) by rw [HRUN.out, HDR.out, runW_new (by decide), List.append_assoc]; rfl)
              have dz := HDZ.out w8 HB8'.out
              go_wp2_with fail
              refine (HHZ.out _ (HB8'.out)).mono ?_
              rintro e w9 ⟨rfl, hb9⟩
              have HB9 := Lib.hid (HB8'.out.trans (hb9.mono HB8'.out.size))
              have HO9 := Lib.hid (own_below HO8.out hb9)
              clear hb9
              have HN := Lib.hid (Rd.new w9 69 3 1 [.int .i64 a, .int .i64 i, .bool true] rfl)
              have H1 := Lib.hid (show ∀ u ∈ ([.int .i64 a, .int .i64 i, .bool true] : List Value), u.oneCell' = true by intro u hu; simp at hu; rcases hu with rfl | rfl | rfl <;> rfl)
              have HOA := Lib.hid (World.ownsRow.alloc HO9.out (.cells #[.int .i64 a, .int .i64 i, .bool true] 69))
              have HBA := Lib.hid (HB9.out.alloc HB9.out.size (.cells #[.int .i64 a, .int .i64 i, .bool true] 69))
              go_wp2_with (at_builtin; refine wpList_append_rd _ rfl (.tmp 47) (.tmp 57) 65 rfl w.heap.size 69 i1 _ 3 24 Try.underlying65 hi1 z0 z1 z2 rfl (by decide) _ m _ rfl HOA.out _ (some ⟨w9.heap.size, 0, none⟩) 1 1 [.int .i64 a, .int .i64 i, .bool true] rfl HN.out H1.out (by simp only [maxLen]; omega) (by omega) HBA.out.size ?_)
              intro v9 wz happ
              have HBZ := Lib.hid (HBA.out.trans (happ.below HBA.out.size HOA.out))
              have HOZ := Lib.hid (show wz.ownsRow w.heap.size 69 3 v9 (m + 1) (wordCells (ws ++ [⟨a, i, true⟩])) by rw [wordCells_append]; exact happ.own)
              clear happ
              go_wp2_with fail
              exact ⟨⟨i + 1, i, m + 1, ws ++ [⟨a, i, true⟩], by omega, by omega, by go_num, rfl, by rw [List.length_append, HM.out]; rfl, by omega, HOZ.out, HBZ.out, .inl ⟨by omega, by omega, false, HBI.out, by rw [Nat.add_sub_cancel]; exact HBI.out, HR2.out⟩⟩, by simp [intOf]; omega⟩
            · have HR2 := Lib.hid (show wordsP (t.map (hasP s)) = (ws ++ [⟨a, i, false⟩]) ++ runW i (i + 1) true ((t.map (hasP s)).drop (i + 1)) by rw [HRUN.out, HDR.out, runW_new (by decide), List.append_assoc]; rfl)
              have dz := HDZ.out w8 HB8'.out
              go_wp2_with fail
              refine (HHZ.out _ (HB8'.out)).mono ?_
              rintro e w9 ⟨rfl, hb9⟩
              have HB9 := Lib.hid (HB8'.out.trans (hb9.mono HB8'.out.size))
              have HO9 := Lib.hid (own_below HO8.out hb9)
              clear hb9
              have HN := Lib.hid (Rd.new w9 69 3 1 [.int .i64 a, .int .i64 i, .bool false] rfl)
              have H1 := Lib.hid (show ∀ u ∈ ([.int .i64 a, .int .i64 i, .bool false] : List Value), u.oneCell' = true by intro u hu; simp at hu; rcases hu with rfl | rfl | rfl <;> rfl)
              have HOA := Lib.hid (World.ownsRow.alloc HO9.out (.cells #[.int .i64 a, .int .i64 i, .bool false] 69))
              have HBA := Lib.hid (HB9.out.alloc HB9.out.size (.cells #[.int .i64 a, .int .i64 i, .bool false] 69))
              go_wp2_with (at_builtin; refine wpList_append_rd _ rfl (.tmp 47) (.tmp 57) 65 rfl w.heap.size 69 i1 _ 3 24 Try.underlying65 hi1 z0 z1 z2 rfl (by decide) _ m _ rfl HOA.out _ (some ⟨w9.heap.size, 0, none⟩) 1 1 [.int .i64 a, .int .i64 i, .bool false] rfl HN.out H1.out (by simp only [maxLen]; omega) (by omega) HBA.out.size ?_)
              intro v9 wz happ
              have HBZ := Lib.hid (HBA.out.trans (happ.below HBA.out.size HOA.out))
              have HOZ := Lib.hid (show wz.ownsRow w.heap.size 69 3 v9 (m + 1) (wordCells (ws ++ [⟨a, i, false⟩])) by rw [wordCells_append]; exact happ.own)
              clear happ
              go_wp2_with fail
              exact ⟨⟨i + 1, i, m + 1, ws ++ [⟨a, i, false⟩], by omega, by omega, by go_num, rfl, by rw [List.length_append, HM.out]; rfl, by omega, HOZ.out, HBZ.out, .inl ⟨by omega, by omega, true, HBI.out, by rw [Nat.add_sub_cancel]; exact HBI.out, HR2.out⟩⟩, by simp [intOf]; omega⟩
            · have HR2 := Lib.hid (show wordsP (t.map (hasP s)) = ws ++ runW a (i + 1) true ((t.map (hasP s)).drop (i + 1)) by rw [HRUN.out, HDR.out, runW_same rfl])
              go_wp2_with fail
              exact ⟨⟨i + 1, a, m, ws, by omega, by omega, by go_num, rfl, HM.out, by omega, HO8.out, HB8'.out, .inl ⟨by omega, by omega, true, HBB.out, by rw [Nat.add_sub_cancel]; exact HBI.out, HR2.out⟩⟩, by simp [intOf]; omega⟩
          · obtain rfl : i = nt := by omega
            have hg : decide ((i : Int) < (i : Int)) = false := decide_eq_false (by omega)
            have HR2 := Lib.hid (show wordsP (t.map (hasP s)) = ws ++ [⟨a, i, b⟩] by rw [HRUN.out, List.drop_of_length_le (by rw [HBL.out]; exact Nat.le_refl _)]; rfl)
            clear hy hz0 hyb hzb hcc hba hbi hrun hb ho hm dy
            go_wp2_with fail
            go_quiet (fail)
            have HB8' := Lib.hid (below_drewN HB.out nq)
            have HO8 := Lib.hid (show (wr.drewN nq).ownsRow w.heap.size 69 3 (.slice Ao m co) m (wordCells ws) from HO.out)
            generalize wr.drewN nq = w8 at *
            have dz := HDZ.out w8 HB8'.out
            go_wp2_with fail
            refine (HHZ.out _ (HB8'.out)).mono ?_
            rintro e w9 ⟨rfl, hb9⟩
            have HB9 := Lib.hid (HB8'.out.trans (hb9.mono HB8'.out.size))
            have HO9 := Lib.hid (own_below HO8.out hb9)
            clear hb9
            have HN := Lib.hid (Rd.new w9 69 3 1 [.int .i64 a, .int .i64 i, .bool b] rfl)
            have H1 := Lib.hid (show ∀ u ∈ ([.int .i64 a, .int .i64 i, .bool b] : List Value), u.oneCell' = true by intro u hu; simp at hu; rcases hu with rfl | rfl | rfl <;> rfl)
            have HOA := Lib.hid (World.ownsRow.alloc HO9.out (.cells #[.int .i64 a, .int .i64 i, .bool b] 69))
            have HBA := Lib.hid (HB9.out.alloc HB9.out.size (.cells #[.int .i64 a, .int .i64 i, .bool b] 69))
            go_wp2_with (at_builtin; refine wpList_append_rd _ rfl (.tmp 47) (.tmp 57) 65 rfl w.heap.size 69 i1 _ 3 24 Try.underlying65 hi1 z0 z1 z2 rfl (by decide) _ m _ rfl HOA.out _ (some ⟨w9.heap.size, 0, none⟩) 1 1 [.int .i64 a, .int .i64 i, .bool b] rfl HN.out H1.out (by simp only [maxLen]; omega) (by omega) HBA.out.size ?_)
            intro v9 wz happ
            have HBZ := Lib.hid (HBA.out.trans (happ.below HBA.out.size HOA.out))
            have HOZ := Lib.hid (show wz.ownsRow w.heap.size 69 3 v9 (m + 1) (wordCells (ws ++ [⟨a, i, b⟩])) by rw [wordCells_append]; exact happ.own)
            clear happ
            go_wp2_with fail
            exact ⟨⟨i + 1, i, m + 1, ws ++ [⟨a, i, b⟩], by omega, by omega, by go_num, rfl, by rw [List.length_append, HM.out]; rfl, by omega, HOZ.out, HBZ.out, .inr ⟨by omega, HR2.out⟩⟩, by simp [intOf]⟩
        · have hi2 : i = nt + 1 := by omega
          have HFIN := Lib.hid (show wordsP (t.map (hasP s)) = ws by
            rcases hst with ⟨h, _⟩ | ⟨_, h⟩
            · exact absurd h hlt
            · exact h)
          have hgt : ¬ (i : Int) ≤ (nt : Int) := by omega
          have HR2 := Lib.hid (show RdX wr (fun b => w.heap.size ≤ b) 3 Ao m (wordCells (wordsP (t.map (hasP s)))) by rw [HFIN.out]; exact RdX.of_own ho (fun b hb => (own_lt ho hb).1))
          clear hst hi2 ho hb hm
          go_wp2_with fail
          go_ret2
          rw [HG.out]
          exact ⟨⟨Ao, m, co, rfl, HR2.out, by omega⟩, HB.out⟩
    · have HG := Lib.hid (show splitP s t = ([], f2) by unfold splitP; rw [HF1.out, HF2.out, if_neg (fun h => h rfl), if_pos hz])
      go_wp2_with fail
      go_ret2
      rw [HG.out]
      exact ⟨WsPost.nil _ _ _, HB2.out⟩
  · have HG := Lib.hid (show splitP s t = ([], f1) by unfold splitP; rw [HF1.out, if_pos hz])
    go_wp2_with fail
    go_ret2
    rw [HG.out]
    exact ⟨WsPost.nil _ _ _, HB1.out⟩

end Go.Proofs.Ytfmebbnccjaadaa
