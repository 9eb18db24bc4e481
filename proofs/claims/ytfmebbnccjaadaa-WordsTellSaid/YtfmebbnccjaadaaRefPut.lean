/- The walk of scriptref7.Put: a rule's target in the place of its source. -/
import Derived.Test.YtfmebbnccjaadaaRefRunAll
namespace Go.Proofs.Ytfmebbnccjaadaa
open Go.RowKit

theorem rdx_skip {w : World} {X : Nat → Prop} {b o n c k : Nat} {xs : List Value} (h : RdX w X 1 (some ⟨b, o, none⟩) n xs) (hk : k ≤ n) (hc : n ≤ c) : RdX w X 1 (some ⟨b, if c = k then o else o + k, none⟩) (n - k) (xs.drop k) := by
  by_cases e : c = k
  · rw [if_pos e]
    have h0 : n - k = 0 := by omega
    refine ⟨?_, fun h1 => by omega⟩
    rw [List.length_drop, h.1]
    omega
  · rw [if_neg e]
    exact rdx_drop h hk

set_option maxRecDepth 100000 in
set_option maxHeartbeats 3200000 in
theorem ref7_put (X : Nat → Prop) (r : RuleD) (A1 A2 A3 A4 : Option Addr) (n1 c1 n2 c2 n3 c3 n4 c4 nt ct b o q : Nat) (t : List Int) (w : World) (h4 : RdX w X 1 A4 n4 (runeCells r.target)) (hn4 : n4 ≤ 100000) (hn2 : n2 ≤ 100000)
    (hnt : nt ≤ 100000) (hct : nt ≤ ct) (hq : q + n2 ≤ nt) (ht : RdR w w.heap.size (some ⟨b, o, none⟩) nt t) :
    Calls Try.prog 49 #[.agg #[.bool r.start, .bool r.fin, .slice A1 n1 c1, .slice A2 n2 c2, .slice A3 n3 c3, .slice A4 n4 c4, .int .i64 r.cursor], .slice (some ⟨b, o, none⟩) nt ct, .int .i64 q] w fun e w' =>
      (∃ b' N c, e = .returned (.slice (some ⟨b', 0, none⟩) N c) ∧ N ≤ c ∧ N = nt - n2 + n4 ∧ RdX w' (fun b => w.heap.size ≤ b) 1 (some ⟨b', 0, none⟩) N (runeCells (t.take q ++ r.target ++ t.drop (q + n2)))) ∧ Below w.heap.size w w' := by
  obtain ⟨i0, hi, z0, z1, z2⟩ := info_parts Try.info21
  have hb0 := (Below.refl w.heap.size w).alloc (Nat.le_refl _) (.cells #[.bool r.start, .bool r.fin, .slice A1 n1 c1, .slice A2 n2 c2, .slice A3 n3 c3, .slice A4 n4 c4, .int .i64 r.cursor] 79)
  have HX0 := Lib.hid (Blk.new w 79 #[.bool r.start, .bool r.fin, .slice A1 n1 c1, .slice A2 n2 c2, .slice A3 n3 c3, .slice A4 n4 c4, .int .i64 r.cursor])
  have HB0 := Lib.hid hb0
  have htd : RdX w (fun _ => True) 1 (some ⟨b, o, none⟩) nt (runeCells t) := RdX.of_rd ht (Nat.le_refl _) (fun _ _ => trivial)
  have HT := Lib.hid (fun (W : World) (hb : Below w.heap.size w W) => show RdX W (fun _ => True) 1 (some ⟨b, o, none⟩) nt (runeCells t) from htd.keep (Keeps.any hb))
  have H4 := Lib.hid (fun (W : World) (hb : Below w.heap.size w W) => show Rd W W.heap.size 1 A4 n4 (runeCells r.target) from (h4.keep (Keeps.any hb)).of)
  have hlo : w.heap.size ≤ (w.alloc (.cells #[.bool r.start, .bool r.fin, .slice A1 n1 c1, .slice A2 n2 c2, .slice A3 n3 c3, .slice A4 n4 c4, .int .i64 r.cursor] 79)).heap.size := hb0.size
  clear hb0 ht htd h4
  go_enter Try.func49, Try.ntmps49
  go_upto_region 1 with fail
  generalize w.alloc (.cells #[.bool r.start, .bool r.fin, .slice A1 n1 c1, .slice A2 n2 c2, .slice A3 n3 c3, .slice A4 n4 c4, .int .i64 r.cursor] 79) = W1 at *
  have HOE := Lib.hid (own_empty W1 21 1 W1.heap.size W1.heap.size rfl (Nat.le_refl _))
  have hba := (Below.refl W1.heap.size W1).alloc (Nat.le_refl _) (.cells #[] 21)
  have HBA := Lib.hid hba
  have HR1 := Lib.hid (rdx_take (k := q) (HT.out _ (HB0.out.trans (hba.mono HB0.out.size))) (by omega)).of
  clear hba
  go_wp2_with (at_builtin; refine wpList_append_rd _ rfl (.tmp 8) (.tmp 11) 23 rfl W1.heap.size 21 i0 _ 1 4 Try.underlying23 hi z0 z1 z2 rfl (by decide) _ _ _ rfl HOE.out _ (some ⟨b, o, none⟩) q ct ((runeCells t).take q) rfl HR1.out (by rw [runeCells_take]; exact runeCells_one _) (by simp only [maxLen]; omega) (by omega) (by simp) ?_)
  intro v1 w3 happ
  obtain ⟨b1, d1, rfl, hd1, hb1, _⟩ := app_blk happ (g := W1.heap.size) rfl (Nat.le_refl _) (by simp)
  have HB3 := Lib.hid (HBA.out.trans (happ.below (by simp) HOE.out))
  have HO3 := Lib.hid happ.own
  have f5 : w3.cell? ⟨w.heap.size, 5, none⟩ = some (.slice A4 n4 c4) := (Blk.below HX0.out HB3.out HX0.out.lt).cell 5
  have f3 : w3.cell? ⟨w.heap.size, 3, none⟩ = some (.slice A2 n2 c2) := (Blk.below HX0.out HB3.out HX0.out.lt).cell 3
  have HR2 := Lib.hid (H4.out w3 (HB0.out.trans (HB3.out.mono HB0.out.size)))
  clear happ HOE HR1 HBA
  go_wp2_with (at_builtin; refine wpList_append_rd _ rfl (.tmp 13) (.tmp 15) 23 rfl W1.heap.size 21 i0 _ 1 4 Try.underlying23 hi z0 z1 z2 rfl (by decide) _ _ _ rfl HO3.out _ A4 n4 c4 (runeCells r.target) rfl HR2.out (runeCells_one _) (by simp only [maxLen]; omega) (by omega) HB3.out.size ?_)
  intro v2 w4 happ
  obtain ⟨b2, d2, rfl, hd2, hb2, _⟩ := app_blk happ (g := b1) rfl (by omega) HB3.out.size
  have HB4 := Lib.hid (HB3.out.trans (happ.below HB3.out.size HO3.out))
  have HO4 := Lib.hid happ.own
  have HR3 := Lib.hid (rdx_skip (c := ct) (HT.out w4 (HB0.out.trans (HB4.out.mono HB0.out.size))) hq hct).of
  clear f5 f3
  have f3 : w4.cell? ⟨w.heap.size, 3, none⟩ = some (.slice A2 n2 c2) := (Blk.below HX0.out HB4.out HX0.out.lt).cell 3
  clear happ HR2 HO3
  have HFIN := Lib.hid (fun (v3 : Value) (w5 : World) (happ : Appended W1.heap.size 21 1 (.slice (some ⟨b2, 0, none⟩) (q + n4) d2) w4 (q + n4 + (nt - (q + n2))) ((runeCells t).take q ++ (runeCells r.target ++ (runeCells t).drop (q + n2))) v3 w5) => show
      (∃ b' N c, Ending.returned v3 = .returned (.slice (some ⟨b', 0, none⟩) N c) ∧ N ≤ c ∧ N = nt - n2 + n4 ∧ RdX w5 (fun b => w.heap.size ≤ b) 1 (some ⟨b', 0, none⟩) N (runeCells (t.take q ++ r.target ++ t.drop (q + n2)))) ∧ Below w.heap.size w w5 by
    obtain ⟨b3, d3, rfl, hd3, hb3, _⟩ := app_blk happ (g := b2) rfl (by omega) HB4.out.size
    have h5 := happ.own
    refine ⟨⟨b3, _, _, rfl, hd3, by omega, ?_⟩, HB0.out.trans ((HB4.out.trans (happ.below HB4.out.size HO4.out)).mono HB0.out.size)⟩
    rw [runeCells_append, runeCells_append, ← runeCells_take, ← runeCells_drop, List.append_assoc]
    exact RdX.of_own h5 (fun k hk => Nat.le_trans hlo (own_lt h5 hk).1))
  by_cases hck : ct = q + n2
  · have HR4 := Lib.hid (show Rd w4 w4.heap.size 1 (some ⟨b, o, none⟩) (nt - (q + n2)) ((runeCells t).drop (q + n2)) by have := HR3.out; rwa [if_pos hck] at this)
    clear HR3
    go_wp2_with (at_builtin; refine wpList_append_rd _ rfl (.tmp 17) (.tmp 24) 23 rfl W1.heap.size 21 i0 _ 1 4 Try.underlying23 hi z0 z1 z2 rfl (by decide) _ _ _ rfl HO4.out _ (some ⟨b, o, none⟩) (nt - (q + n2)) _ ((runeCells t).drop (q + n2)) rfl HR4.out (by rw [runeCells_drop]; exact runeCells_one _) (by simp only [maxLen]; omega) (by omega) HB4.out.size ?_)
    intro v3 w5 happ
    have HF := Lib.hid (HFIN.out v3 w5 happ)
    clear happ
    go_wp2_with fail
    go_ret
    exact HF.out
  · have HR4 := Lib.hid (show Rd w4 w4.heap.size 1 (some ⟨b, o + (q + n2), none⟩) (nt - (q + n2)) ((runeCells t).drop (q + n2)) by have := HR3.out; rwa [if_neg hck] at this)
    clear HR3
    go_wp2_with (at_builtin; refine wpList_append_rd _ rfl (.tmp 17) (.tmp 24) 23 rfl W1.heap.size 21 i0 _ 1 4 Try.underlying23 hi z0 z1 z2 rfl (by decide) _ _ _ rfl HO4.out _ (some ⟨b, o + (q + n2), none⟩) (nt - (q + n2)) _ ((runeCells t).drop (q + n2)) rfl HR4.out (by rw [runeCells_drop]; exact runeCells_one _) (by simp only [maxLen]; omega) (by omega) HB4.out.size ?_)
    intro v3 w5 happ
    have HF := Lib.hid (HFIN.out v3 w5 happ)
    clear happ
    go_wp2_with fail
    go_ret
    exact HF.out

end Go.Proofs.Ytfmebbnccjaadaa
