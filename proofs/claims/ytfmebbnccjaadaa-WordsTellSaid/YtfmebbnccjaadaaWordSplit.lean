/- The walks of words.Split and scriptref17.Split: they tell splitP. -/
import Derived.Test.YtfmebbnccjaadaaWordP
import Derived.Test.YtfmebbnccjaadaaHas
import Derived.Test.YtfmebbnccjaadaaRefMatch
import Derived.Laws.OwnMore
import Derived.Deep.QuietTactic
import Derived.BigQuiet
namespace Go.Proofs.Ytfmebbnccjaadaa
open Go.RowKit

theorem infoWord : (Try.prog.info? 69).map (fun i => (i.zero, i.size, i.bytes)) = some (some (.agg #[.int .i64 0, .int .i64 0, .bool false]), 3, 24) := by kernel_rfl
def WsPost (lo : Nat) (w' : World) (o : List WordD × Int) (e : Ending) : Prop :=
  ∃ (A : Option Addr) (n c : Nat), e = .returned (.tuple #[.slice A n c, .int .i64 o.2]) ∧ RdX w' (fun b => lo ≤ b) 3 A n (wordCells o.1) ∧ n ≤ 100000
theorem WsPost.nil (lo : Nat) (w' : World) (a : Int) : WsPost lo w' ([], a) (.returned (.tuple #[.slice none 0 0, .int .i64 a])) := ⟨none, 0, 0, rfl, ⟨rfl, fun h => absurd h (Nat.lt_irrefl 0)⟩, Nat.zero_le _⟩
theorem word_set (ws : List WordD) (x : WordD) (u : Nat) : (wordCells (ws ++ [x])).set (ws.length * 3 + 1) (.int .i64 u) = wordCells (ws ++ [{ x with upto := u }]) := by
  rw [wordCells_append, wordCells_append, List.set_append_right _ _ (by rw [wordCells_length]; omega), wordCells_length, Nat.add_sub_cancel_left]
  simp [wordCells]
/-- The state behind k runes: the words that are shut, and the open one. -/
def WsRel (w : World) (bs : List Bool) (n : Nat) (out i : Value) (wr : World) : Prop :=
  ∃ (k : Nat) (ws : List WordD) (m : Nat), k ≤ n ∧ i = .int .i64 k ∧ ws.length = m ∧ m ≤ k ∧ wr.ownsRow w.heap.size 69 3 out m (wordCells ws) ∧ Below w.heap.size w wr ∧
    ((k = 0 ∧ m = 0) ∨ ∃ (us : List WordD) (a : Nat) (b : Bool), ws = us ++ [⟨a, k, b⟩] ∧ wordsP bs = us ++ runW a k b (bs.drop k))

theorem textP_len' {t : List Int} (h : textP t = 0) : t.length ≤ 4000 := by
  unfold textP at h
  by_cases h4 : 4000 < t.length
  · rw [if_pos h4] at h; cases h
  · omega

set_option maxRecDepth 100000 in
set_option maxHeartbeats 6400000 in
theorem words_split (A At : Option Addr) (n c nt ct : Nat) (s : Spans) (t : List Int) (w : World) (hn : n ≤ 9223372036854775807) (hs : RdS w w.heap.size A n s) (hnt : nt ≤ maxLen) (ht : RdR w w.heap.size At nt t) :
    Calls Try.prog 32 #[.slice A n c, .slice At nt ct] w fun e w' => WsPost w.heap.size w' (splitP s t) e ∧ Below w.heap.size w w' := by
  obtain ⟨i1, hi1, z0, z1, z2⟩ := info_parts infoWord
  have HS := Lib.hid (fun (W : World) (hb : Below w.heap.size w W) => show RdS W W.heap.size A n s from (Rd.below hs hb).more hb.size)
  have HT := Lib.hid (fun (W : World) (hb : Below w.heap.size w W) => show RdR W W.heap.size At nt t from (Rd.below ht hb).more hb.size)
  have HTW := Lib.hid ht
  have HTL := Lib.hid (show t.length = nt from ht.len)
  have HP := Lib.hid (sets_wrong A n c s w hn hs)
  have HQ := Lib.hid (fun (W : World) (hb : Below w.heap.size w W) => match_text At nt ct t W hnt (HT.out W hb))
  clear hs ht
  obtain ⟨f1, hf1⟩ : ∃ f, wrongP s = f := ⟨_, rfl⟩
  have HF1 := Lib.hid hf1
  rw [hf1] at HP
  clear hf1
  go_enter Try.func32, Try.ntmps32
  go_wp2_with fail
  refine HP.out.mono ?_
  rintro e w1 ⟨rfl, hb1⟩
  have HB1 := Lib.hid hb1
  clear hb1 HP
  by_cases hz : f1 = 0
  · subst hz
    obtain ⟨f2, hf2⟩ : ∃ f, textP t = f := ⟨_, rfl⟩
    have HF2 := Lib.hid hf2
    go_wp2_with fail
    refine (HQ.out w1 HB1.out).mono ?_
    rintro e w2 ⟨rfl, hb2⟩
    have HB2 := Lib.hid (HB1.out.trans (hb2.mono HB1.out.size))
    rw [hf2]
    clear hb2 hf2 HB1 HQ
    by_cases hz : f2 = 0
    · subst hz
      have HG := Lib.hid (show splitP s t = (wordsP (t.map (hasP s)), 0) by unfold splitP; rw [HF1.out, HF2.out, if_neg (fun h => h rfl), if_neg (fun h => h rfl)])
      have hnt4 : nt ≤ 4000 := by have := (textP_len' HF2.out); have := HTL.out; omega
      have HRS := Lib.hid (right_set HF1.out)
      have HBL := Lib.hid (show (t.map (hasP s)).length = nt by rw [List.length_map]; exact HTL.out)
      have hw2 := HB2.out.size
      go_wp2_with fail
      go_loopw [8, 25] (WsRel w (t.map (hasP s)) nt) (fun _ i _ => nt - (intOf i).toNat)
      case atStart => exact ⟨0, [], 0, Nat.zero_le _, rfl, rfl, Nat.le_refl _, World.ownsRow_nil _ _ _ _, HB2.out, .inl ⟨rfl, rfl⟩⟩
      case round =>
        obtain ⟨k, ws, m, hk, rfl, hm, hmk, ho, hb, hst⟩ := hrel
        have HM := Lib.hid hm
        have HO := Lib.hid ho
        have HB := Lib.hid hb
        have HST := Lib.hid hst
        have hz := hb.size
        clear hm hst
        by_cases hlt : k < nt
        · obtain ⟨x, hx⟩ : ∃ x, t[k]? = some x := ⟨_, List.getElem?_eq_getElem (by rw [HTL.out]; exact hlt)⟩
          obtain ⟨b1, o1, rfl, hbb, hcc⟩ := HTW.out.2 (by omega)
          have hd : wr.cell? ⟨b1, o1 + k, none⟩ = some (.int .i32 x) := (hb.cell (p := ⟨b1, o1 + k, none⟩) hbb).trans (hcc k _ (by simp [runeCells, hx]))
          have hbx : (t.map (hasP s))[k]? = some (hasP s x) := by simp [hx]
          have HDR := Lib.hid (show (t.map (hasP s)).drop k = hasP s x :: (t.map (hasP s)).drop (k + 1) from drop_at hbx)
          have HH := Lib.hid (sets_has A n c s x wr HRS.out (HS.out wr hb))
          obtain ⟨Ao, co, rfl, _⟩ := own_form ho
          clear hx hcc hbx hb ho
          go_wp2_with fail
          refine HH.out.mono ?_
          rintro e w5 ⟨rfl, hb5⟩
          have HB5 := Lib.hid (HB.out.trans (hb5.mono hz))
          have HO5 := Lib.hid (own_below HO.out hb5)
          obtain ⟨hx, hhx⟩ : ∃ h, hasP s x = h := ⟨_, rfl⟩
          rw [hhx] at HDR ⊢
          clear hb5 HB HO HH hd hhx
          rcases HST.out with ⟨rfl, rfl⟩ | ⟨us, a, b, hws, hrun⟩
          · have HWS := Lib.hid (show ws = [] from List.eq_nil_of_length_eq_zero HM.out)
            have HN := Lib.hid (Rd.new w5 69 3 1 [.int .i64 ((0 : Nat) : Int), .int .i64 (((0 : Nat) : Int) + 1), .bool hx] rfl)
            have H1 := Lib.hid (show ∀ u ∈ [Value.int .i64 ((0 : Nat) : Int), .int .i64 (((0 : Nat) : Int) + 1), .bool hx], u.oneCell' = true by intro u hu; simp at hu; rcases hu with rfl | rfl | rfl <;> rfl)
            have HOA := Lib.hid (World.ownsRow.alloc HO5.out (.cells #[.int .i64 ((0 : Nat) : Int), .int .i64 (((0 : Nat) : Int) + 1), .bool hx] 69))
            have HBA := Lib.hid (HB5.out.alloc HB5.out.size (.cells #[.int .i64 ((0 : Nat) : Int), .int .i64 (((0 : Nat) : Int) + 1), .bool hx] 69))
            have HD0 := Lib.hid (show wordsP (t.map (hasP s)) = [] ++ runW 0 1 hx ((t.map (hasP s)).drop 1) by
              have h := HDR.out
              rw [List.drop_zero] at h
              rw [h]
              rfl)
            simp only [Int.natCast_zero, Int.zero_add] at HN H1 HOA HBA
            go_wp2_with (at_builtin; refine wpList_append_rd _ rfl (.tmp 55) (.tmp 61) 65 rfl w.heap.size 69 i1 _ 3 24 Try.underlying65 hi1 z0 z1 z2 rfl (by decide) _ 0 _ rfl HOA.out _ (some ⟨w5.heap.size, 0, none⟩) 1 1 [.int .i64 0, .int .i64 1, .bool hx] rfl HN.out H1.out (by simp only [maxLen]; omega) (by omega) HBA.out.size ?_)
            intro v9 w9 happ
            have HB9 := Lib.hid (HBA.out.trans (happ.below HBA.out.size HOA.out))
            have HO9 := Lib.hid (show w9.ownsRow w.heap.size 69 3 v9 1 (wordCells ([] ++ [⟨0, 1, hx⟩])) by
              have h := happ.own
              rw [HWS.out] at h
              exact h)
            clear happ
            go_wp2_with fail
            exact ⟨⟨1, [] ++ [⟨0, 1, hx⟩], 1, by omega, rfl, rfl, Nat.le_refl _, HO9.out, HB9.out, .inr ⟨[], 0, hx, rfl, HD0.out⟩⟩, by simp [intOf]; omega⟩
          · have hm1 : us.length + 1 = m := by rw [← HM.out, hws]; simp
            obtain ⟨g, co', hv, _, hlg, hgl⟩ := own_some HO5.out (by omega)
            cases hv
            obtain ⟨q, hq⟩ : ∃ q, us.length = q := ⟨_, rfl⟩
            obtain rfl : q + 1 = m := by omega
            have HQ2 := Lib.hid hq
            have HWS := Lib.hid hws
            have HRUN := Lib.hid (show wordsP (t.map (hasP s)) = us ++ runW a k b (hx :: (t.map (hasP s)).drop (k + 1)) by rw [hrun, HDR.out])
            have hcell := fun (j : Nat) (u : Value) (hu : (wordCells ws)[j]? = some u) => (add_at g 0 j) ▸ World.ownsRow.cells HO5.out (g := g) rfl j u hu
            have hwg : ws[q]? = some ⟨a, k, b⟩ := by rw [hws, List.getElem?_append_right (by omega), hq, Nat.sub_self]; rfl
            obtain ⟨e0, e1, e2⟩ := word_get hwg
            have c1 := hcell _ _ e1
            have c2 := hcell _ _ e2
            rw [Nat.zero_add] at c1 c2
            have fz : ∀ j, w5.frozen? ⟨g, j, none⟩ = false := fun j => by
              obtain ⟨_, h2⟩ := HO5.out
              rcases h2 with ⟨h3, _⟩ | ⟨g', cap, cur, h3, _, hh, _⟩
              · cases h3
              · cases h3
                simp [World.frozen?, hh]
            have f1 := fz (q * 3 + 1)
            have hST := HO5.out.stored (q * 3 + 1) (.int .i64 ((k + 1 : Nat) : Int))
            rw [hws, ← hq, word_set] at hST
            rw [hq] at hST
            have HSTO := Lib.hid hST.1
            have HBS := Lib.hid (HB5.out.setCell (p := ⟨g, q * 3 + 1, none⟩) hlg (.int .i64 ((k + 1 : Nat) : Int)))
            have hq0 : (0 : Int) ≤ (q : Int) := by omega
            clear hcell hwg e0 e1 e2 fz hST hws hrun hq hm1
            by_cases hbb2 : b = hx
            · subst hbb2
              have HR2 := Lib.hid (show wordsP (t.map (hasP s)) = us ++ runW a (k + 1) b ((t.map (hasP s)).drop (k + 1)) by rw [HRUN.out, runW_same rfl])
              have ek : ((k + 1 : Nat) : Int) = (k : Int) + 1 := by omega
              rw [ek] at HSTO HBS
              clear ek
              go_wp2_with fail
              exact ⟨⟨k + 1, us ++ [⟨a, k + 1, b⟩], q + 1, by omega, by go_num, by rw [List.length_append, HQ2.out]; rfl, by omega, HSTO.out, HBS.out, .inr ⟨us, a, b, rfl, HR2.out⟩⟩, by simp [intOf]; omega⟩
            · have HR2 := Lib.hid (show wordsP (t.map (hasP s)) = (us ++ [⟨a, k, b⟩]) ++ runW k (k + 1) hx ((t.map (hasP s)).drop (k + 1)) by rw [HRUN.out, runW_new (fun e => hbb2 e.symm), List.append_assoc]; rfl)
              have hne : (b == hx) = false := by rw [beq_eq_false_iff_ne]; exact hbb2
              have HN := Lib.hid (Rd.new w5 69 3 1 [.int .i64 k, .int .i64 ((k : Int) + 1), .bool hx] rfl)
              have H1 := Lib.hid (show ∀ u ∈ [Value.int .i64 k, .int .i64 ((k : Int) + 1), .bool hx], u.oneCell' = true by intro u hu; simp at hu; rcases hu with rfl | rfl | rfl <;> rfl)
              have HOA := Lib.hid (World.ownsRow.alloc HO5.out (.cells #[.int .i64 k, .int .i64 ((k : Int) + 1), .bool hx] 69))
              have HBA := Lib.hid (HB5.out.alloc HB5.out.size (.cells #[.int .i64 k, .int .i64 ((k : Int) + 1), .bool hx] 69))
              clear hbb2 f1
              go_wp2_with (at_builtin; refine wpList_append_rd _ rfl (.tmp 55) (.tmp 61) 65 rfl w.heap.size 69 i1 _ 3 24 Try.underlying65 hi1 z0 z1 z2 rfl (by decide) _ (q + 1) _ rfl HOA.out _ (some ⟨w5.heap.size, 0, none⟩) 1 1 [.int .i64 k, .int .i64 ((k : Int) + 1), .bool hx] rfl HN.out H1.out (by simp only [maxLen]; omega) (by omega) HBA.out.size ?_)
              intro v9 w9 happ
              have HB9 := Lib.hid (HBA.out.trans (happ.below HBA.out.size HOA.out))
              have HO9 := Lib.hid (show w9.ownsRow w.heap.size 69 3 v9 (q + 1 + 1) (wordCells ((us ++ [⟨a, k, b⟩]) ++ [⟨k, k + 1, hx⟩])) by
                have h := happ.own
                rw [HWS.out] at h
                rw [wordCells_append]
                exact h)
              clear happ
              go_wp2_with fail
              exact ⟨⟨k + 1, (us ++ [⟨a, k, b⟩]) ++ [⟨k, k + 1, hx⟩], q + 1 + 1, by omega, by go_num, by rw [List.length_append, List.length_append, HQ2.out]; rfl, by omega, HO9.out, HB9.out, .inr ⟨us ++ [⟨a, k, b⟩], k, hx, rfl, HR2.out⟩⟩, by simp [intOf]; omega⟩
        · obtain rfl : k = nt := by omega
          have HFIN := Lib.hid (show wordsP (t.map (hasP s)) = ws by
            rcases HST.out with ⟨h0, h1⟩ | ⟨us, a, b, hws, hrun⟩
            · have e1 : ws = [] := List.eq_nil_of_length_eq_zero (by rw [HM.out]; exact h1)
              have e2 : t.map (hasP s) = [] := List.eq_nil_of_length_eq_zero (by rw [HBL.out]; exact h0)
              rw [e1, e2]
              rfl
            · rw [hrun, hws, List.drop_of_length_le (by rw [HBL.out]; exact Nat.le_refl _)]
              rfl)
          have HR := Lib.hid (show ∃ A c, u8 = .slice A m c ∧ RdX wr (fun b => w.heap.size ≤ b) 3 A m (wordCells (wordsP (t.map (hasP s)))) by
            obtain ⟨A', c', e, _⟩ := own_form HO.out
            have h := HO.out
            rw [e] at h
            refine ⟨A', c', e, ?_⟩
            rw [HFIN.out]
            exact RdX.of_own h (fun b hb => (own_lt h hb).1))
          obtain ⟨A', c', rfl, hr⟩ := HR.out
          have HR2 := Lib.hid hr
          clear hr ho hb
          go_wp2_with fail
          go_ret2
          rw [HG.out]
          exact ⟨⟨A', m, c', rfl, HR2.out, by omega⟩, HB.out⟩
    · have HG := Lib.hid (show splitP s t = ([], f2) by unfold splitP; rw [HF1.out, HF2.out, if_neg (fun h => h rfl), if_pos hz])
      go_wp2_with fail
      go_ret2
      rw [HG.out]
      exact ⟨WsPost.nil _ _ _, HB2.out⟩
  · have HG := Lib.hid (show splitP s t = ([], f1) by unfold splitP; rw [HF1.out, if_pos hz])
    go_wp2_with fail
    go_ret2
    rw [HG.out]
    exact ⟨WsPost.nil _ _ _, HB1.out⟩

end Go.Proofs.Ytfmebbnccjaadaa
