/- The walk of scriptref17.Title: it tells titleP. -/
import Derived.Test.YtfmebbnccjaadaaWordTitle
namespace Go.Proofs.Ytfmebbnccjaadaa
open Go.RowKit

def RtRel (w : World) (TT : List Int) (n : Nat) (out i : Value) (wr : World) : Prop :=
  ∃ k : Nat, k ≤ n ∧ i = .int .i64 k ∧ wr.ownsRow w.heap.size 21 1 out k (runeCells (TT.take k)) ∧ Below w.heap.size w wr

set_option maxRecDepth 100000 in
set_option maxHeartbeats 6400000 in
theorem ref17_title (A At : Option Addr) (n c nt ct : Nat) (s : Spans) (t : List Int) (w : World) (hn : n ≤ 9223372036854775807) (hs : RdS w w.heap.size A n s) (hnt : nt ≤ maxLen) (ht : RdR w w.heap.size At nt t) :
    Calls Try.prog 35 #[.slice A n c, .slice At nt ct] w fun e w' => TiPost w.heap.size w' (titleP s t) e ∧ Below w.heap.size w w' := by
  obtain ⟨i0, hi, y0, y1, y2⟩ := info_parts Try.info21
  have HP := Lib.hid (ref17_split A At n c nt ct s t w hn hs hnt ht)
  have HSX := Lib.hid (fun (W : World) (hb : Below w.heap.size w W) (x : Int) => show Calls Try.prog 67 #[.slice A n c, .int .i32 x] W fun e w' => e = .returned (.bool (hasP s x)) ∧ Below W.heap.size W w' from ref2_has A n c s x W hn ((Rd.below hs hb).more hb.size))
  have HTW := Lib.hid ht
  have HTL := Lib.hid (show t.length = nt from ht.len)
  have HGW := Lib.hid (show (splitP s t).2 = 0 → textP t = 0 by
    intro h
    unfold splitP at h
    by_cases h1 : wrongP s = 0
    · rw [if_neg (fun h2 => h2 h1)] at h
      by_cases h2 : textP t = 0
      · exact h2
      · rw [if_pos h2] at h; exact absurd h h2
    · rw [if_pos h1] at h; exact absurd h h1)
  obtain ⟨ws, f1, hSP⟩ : ∃ ws f1, splitP s t = (ws, f1) := ⟨_, _, rfl⟩
  have HTI := Lib.hid (show titleP s t = if f1 ≠ 0 then ([], f1) else (tgo (hasP s) false t, 0) by unfold titleP; rw [hSP])
  rw [hSP] at HP HGW
  dsimp only at HP HGW
  clear hs ht hSP
  go_enter Try.func35, Try.ntmps35
  go_wp2_with fail
  refine HP.out.mono ?_
  rintro e w1 ⟨⟨A1, m, c1, rfl, _, _⟩, hb1⟩
  dsimp only
  have HB1 := Lib.hid hb1
  clear hb1 HP
  by_cases hz : f1 = 0
  · subst hz
    have HG := Lib.hid (HTI.out.trans (if_neg (fun h => h rfl)))
    have hnt4 : nt ≤ 4000 := by have := textP_len' (HGW.out rfl); have := HTL.out; omega
    have HTT := Lib.hid (show (tgo (hasP s) false t).length = nt by rw [tgo_length]; exact HTL.out)
    have HTG := Lib.hid (fun (i : Nat) (r : Int) (h : t[i]? = some r) => tgo_get (hasP s) t false i r h)
    generalize hTTe : tgo (hasP s) false t = TT at *
    clear HGW HTI hTTe
    go_wp2_with fail
    go_loopw [8, 22] (RtRel w TT nt) (fun _ i _ => nt - (intOf i).toNat)
    case atStart => exact ⟨0, Nat.zero_le _, rfl, World.ownsRow_nil _ _ _ _, HB1.out⟩
    case round =>
      obtain ⟨k, hk, rfl, ho, hb⟩ := hrel
      have HO := Lib.hid ho
      have HB := Lib.hid hb
      have hz := hb.size
      obtain ⟨Ao, co, rfl, _⟩ := own_form ho
      by_cases hlt : k < nt
      · obtain ⟨r, hr⟩ : ∃ r, t[k]? = some r := ⟨_, List.getElem?_eq_getElem (by rw [HTL.out]; exact hlt)⟩
        obtain ⟨b1, o1, rfl, hbb, hcc⟩ := HTW.out.2 (by omega)
        have hd : wr.cell? ⟨b1, o1 + k, none⟩ = some (.int .i32 r) := (hb.cell (p := ⟨b1, o1 + k, none⟩) hbb).trans (hcc k _ (by simp [runeCells, hr]))
        have hTk := HTG.out k r hr
        have HTK := Lib.hid hTk
        have HC1 := Lib.hid (fun (W : World) (hW : Below w.heap.size w W) (q : Nat) (y : Int) (hq : t[q]? = some y) => show W.cell? ⟨b1, o1 + q, none⟩ = some (.int .i32 y) from (hW.cell (p := ⟨b1, o1 + q, none⟩) hbb).trans (hcc q _ (by simp [runeCells, hq])))
        have HR := Lib.hid hr
        clear hr hTk hcc hb ho
        go_wp2_with fail
        refine (HSX.out wr HB.out r).mono ?_
        rintro e w5 ⟨rfl, hb5⟩
        have HB5 := Lib.hid (HB.out.trans (hb5.mono hz))
        have HO5 := Lib.hid (own_below HO.out hb5)
        obtain ⟨h, hh⟩ : ∃ h, hasP s r = h := ⟨_, rfl⟩
        have HH := Lib.hid hh
        rw [hh]
        have hz5 := HB5.out.size
        clear hb5 hh hd HB HO
        cases h
        · have HT1 := Lib.hid (show TT[k]? = some r by rw [HTK.out, HH.out, if_neg (by decide)])
          have HN := Lib.hid (Rd.new w5 21 1 1 [.int .i32 (r)] rfl)
          have HOA := Lib.hid (World.ownsRow.alloc HO5.out (.cells #[.int .i32 (r)] 21))
          have HBA := Lib.hid (HB5.out.alloc HB5.out.size (.cells #[.int .i32 (r)] 21))
          go_wp2_with (at_builtin; refine wpList_append_rd _ rfl (.tmp 37) (.tmp 39) 23 rfl w.heap.size 21 i0 _ 1 4 Try.underlying23 hi y0 y1 y2 rfl (by decide) _ k _ rfl HOA.out _ (some ⟨w5.heap.size, 0, none⟩) 1 1 (runeCells [r]) rfl HN.out (runeCells_one _) (by simp only [maxLen]; omega) (by omega) HBA.out.size ?_)
          intro v9 w9 happ
          have HB9 := Lib.hid (HBA.out.trans (happ.below HBA.out.size HOA.out))
          have HO9 := Lib.hid (show w9.ownsRow w.heap.size 21 1 v9 (k + 1) (runeCells (TT.take (k + 1))) by rw [take_snoc'' HT1.out, runeCells_append]; exact happ.own)
          clear happ
          go_wp2_with fail
          exact ⟨⟨k + 1, by omega, by go_num, HO9.out, HB9.out⟩, by simp [intOf]; omega⟩
        · by_cases hk0 : k = 0
          · have HT1 := Lib.hid (show TT[k]? = some (upP r) by rw [HTK.out, HH.out, if_pos rfl, if_pos hk0, if_neg (by decide)])
            have hE : ((k : Int) == 0) = true := by rw [beq_iff_eq]; omega
            clear hk0
            go_wp2_with fail
            refine (ref_upper r _).mono ?_
            rintro e w6 ⟨rfl, h6⟩
            obtain rfl := h6.symm
            have HN := Lib.hid (Rd.new w5 21 1 1 [.int .i32 (upP r)] rfl)
            have HOA := Lib.hid (World.ownsRow.alloc HO5.out (.cells #[.int .i32 (upP r)] 21))
            have HBA := Lib.hid (HB5.out.alloc HB5.out.size (.cells #[.int .i32 (upP r)] 21))
            go_wp2_with (at_builtin; refine wpList_append_rd _ rfl (.tmp 54) (.tmp 57) 23 rfl w.heap.size 21 i0 _ 1 4 Try.underlying23 hi y0 y1 y2 rfl (by decide) _ k _ rfl HOA.out _ (some ⟨w5.heap.size, 0, none⟩) 1 1 (runeCells [upP r]) rfl HN.out (runeCells_one _) (by simp only [maxLen]; omega) (by omega) HBA.out.size ?_)
            intro v9 w9 happ
            have HB9 := Lib.hid (HBA.out.trans (happ.below HBA.out.size HOA.out))
            have HO9 := Lib.hid (show w9.ownsRow w.heap.size 21 1 v9 (k + 1) (runeCells (TT.take (k + 1))) by rw [take_snoc'' HT1.out, runeCells_append]; exact happ.own)
            clear happ
            go_wp2_with fail
            exact ⟨⟨k + 1, by omega, by go_num, HO9.out, HB9.out⟩, by simp [intOf]; omega⟩
          · obtain ⟨y, hy⟩ : ∃ y, t[k - 1]? = some y := ⟨_, List.getElem?_eq_getElem (by rw [HTL.out]; omega)⟩
            have hE : ((k : Int) == 0) = false := by rw [beq_eq_false_iff_ne]; omega
            have d1 := HC1.out w5 HB5.out (k - 1) y hy
            have v1 : IntKind.i64.wrap ((k : Int) - 1) = (k : Int) - 1 := IntWalk.i64_in _ (by omega)
            have v2 : ((k : Int) - 1).toNat = k - 1 := by omega
            have v3 : (0 : Int) ≤ (k : Int) - 1 := by omega
            have v4 : (k : Int) - 1 < (nt : Int) := by omega
            have v7 : (1 : Int) ≤ (k : Int) := by omega
            have HTK2 := Lib.hid (show TT[k]? = some (if hasP s y = true then lowP r else upP r) by
              rw [HTK.out, HH.out, if_pos rfl, if_neg (show ¬ k = 0 from hk0), hy]
              rfl)
            clear hy hk0
            go_wp2_with fail
            refine (HSX.out w5 HB5.out y).mono ?_
            rintro e w6 ⟨rfl, hb6⟩
            have HB6 := Lib.hid (HB5.out.trans (hb6.mono hz5))
            have HO6 := Lib.hid (own_below HO5.out hb6)
            obtain ⟨h2, hh2⟩ : ∃ h, hasP s y = h := ⟨_, rfl⟩
            have HH2 := Lib.hid hh2
            rw [hh2]
            have hz6 := HB6.out.size
            clear hb6 hh2 d1 v1 v2 v3 v4 v7 HB5 HO5
            cases h2
            · have HT1 := Lib.hid (show TT[k]? = some (upP r) by rw [HTK2.out, HH2.out, if_neg (by decide)])
              go_wp2_with fail
              refine (ref_upper r _).mono ?_
              rintro e w7 ⟨rfl, h7⟩
              obtain rfl := h7.symm
              have HN := Lib.hid (Rd.new w6 21 1 1 [.int .i32 (upP r)] rfl)
              have HOA := Lib.hid (World.ownsRow.alloc HO6.out (.cells #[.int .i32 (upP r)] 21))
              have HBA := Lib.hid (HB6.out.alloc HB6.out.size (.cells #[.int .i32 (upP r)] 21))
              go_wp2_with (at_builtin; refine wpList_append_rd _ rfl (.tmp 54) (.tmp 57) 23 rfl w.heap.size 21 i0 _ 1 4 Try.underlying23 hi y0 y1 y2 rfl (by decide) _ k _ rfl HOA.out _ (some ⟨w6.heap.size, 0, none⟩) 1 1 (runeCells [upP r]) rfl HN.out (runeCells_one _) (by simp only [maxLen]; omega) (by omega) HBA.out.size ?_)
              intro v9 w9 happ
              have HB9 := Lib.hid (HBA.out.trans (happ.below HBA.out.size HOA.out))
              have HO9 := Lib.hid (show w9.ownsRow w.heap.size 21 1 v9 (k + 1) (runeCells (TT.take (k + 1))) by rw [take_snoc'' HT1.out, runeCells_append]; exact happ.own)
              clear happ
              go_wp2_with fail
              exact ⟨⟨k + 1, by omega, by go_num, HO9.out, HB9.out⟩, by simp [intOf]; omega⟩
            · have HT1 := Lib.hid (show TT[k]? = some (lowP r) by rw [HTK2.out, HH2.out, if_pos rfl])
              go_wp2_with fail
              refine (ref_lower r _).mono ?_
              rintro e w7 ⟨rfl, h7⟩
              obtain rfl := h7.symm
              have HN := Lib.hid (Rd.new w6 21 1 1 [.int .i32 (lowP r)] rfl)
              have HOA := Lib.hid (World.ownsRow.alloc HO6.out (.cells #[.int .i32 (lowP r)] 21))
              have HBA := Lib.hid (HB6.out.alloc HB6.out.size (.cells #[.int .i32 (lowP r)] 21))
              go_wp2_with (at_builtin; refine wpList_append_rd _ rfl (.tmp 27) (.tmp 30) 23 rfl w.heap.size 21 i0 _ 1 4 Try.underlying23 hi y0 y1 y2 rfl (by decide) _ k _ rfl HOA.out _ (some ⟨w6.heap.size, 0, none⟩) 1 1 (runeCells [lowP r]) rfl HN.out (runeCells_one _) (by simp only [maxLen]; omega) (by omega) HBA.out.size ?_)
              intro v9 w9 happ
              have HB9 := Lib.hid (HBA.out.trans (happ.below HBA.out.size HOA.out))
              have HO9 := Lib.hid (show w9.ownsRow w.heap.size 21 1 v9 (k + 1) (runeCells (TT.take (k + 1))) by rw [take_snoc'' HT1.out, runeCells_append]; exact happ.own)
              clear happ
              go_wp2_with fail
              exact ⟨⟨k + 1, by omega, by go_num, HO9.out, HB9.out⟩, by simp [intOf]; omega⟩
      · obtain rfl : k = nt := by omega
        have HRF := Lib.hid (show RdX wr (fun b => w.heap.size ≤ b) 1 Ao k (runeCells TT) by
          have h := HO.out
          rw [List.take_of_length_le (by rw [HTT.out]; exact Nat.le_refl _)] at h
          exact RdX.of_own h (fun b hb => (own_lt h hb).1))
        clear hb ho
        go_wp2_with fail
        go_ret2
        rw [HG.out]
        exact ⟨⟨Ao, k, co, rfl, HRF.out⟩, HB.out⟩
  · have HG := Lib.hid (HTI.out.trans (if_pos hz))
    go_wp2_with fail
    go_ret2
    rw [HG.out]
    exact ⟨TiPost.nil _ _ _, HB1.out⟩

end Go.Proofs.Ytfmebbnccjaadaa
