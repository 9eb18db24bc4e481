/- A file as text, by the document's answer: the walk of scriptref5.Print. -/
import Derived.Test.YtdfljicijfceeaaDoorPrintRef0
namespace Go.Proofs.YtdfljicijfceeaaDoor
open Go.RowKit

set_option maxRecDepth 100000 in
set_option maxHeartbeats 8000000 in
theorem ref_fileprint (A : Option Addr) (n c : Nat) (l : List PartD) (w : World) (hn : n ≤ maxLen) (hl : RdP w w.heap.size A n l) :
    Calls Tryd.prog 5 #[.slice A n c] w fun e w' => e = .returned (.tuple #[.string (textP l), .agg #[.int .i64 (fileP l).1, .int .i64 (fileP l).2]]) ∧ Below w.heap.size w w' := by
  obtain ⟨i0, hi, hz0, hz1, hz2⟩ := info_parts infoStr
  have hrf : ∀ w', Below w.heap.size w w' → Calls Tryd.prog 7 #[.slice A n c] w' fun e w2 => e = .returned (.agg #[.int .i64 (fileP l).1, .int .i64 (fileP l).2]) ∧ Below w'.heap.size w' w2 :=
    fun w' hb => ref_file A n c l w' hn (RdP.weak (weak_of hb hb.size) hl)
  have HLEN := Lib.hid (RdL.len hl)
  have HL := Lib.hid hl
  have HRF := Lib.hid hrf
  have hn2 : n ≤ 9223372036854775807 := by unfold maxLen at hn; omega
  clear hl hn hrf
  have HB0 := Lib.hid ((Below.refl w.heap.size w).alloc (Nat.le_refl _) (.cells #[.int .i64 0, .int .i64 0] 25))
  have HK0 := Lib.hid (Blk.new w 25 #[.int .i64 0, .int .i64 0])
  by_cases he : (fileP l).1 = 0
  · obtain ⟨hl200, hfp, hall⟩ := file_ok he
    have HT := Lib.hid (show textP l = ⟨(fileT l).toArray⟩ by unfold textP; rw [if_pos he])
    have HFP := Lib.hid hfp
    have HALL := Lib.hid hall
    have hn200 : n ≤ 200 := by rw [← HLEN.out]; exact hl200
    clear he hfp hall hl200
    go_enter Tryd.func5, Tryd.ntmps5
    go_wp2_with fail
    refine (HRF.out _ HB0.out).mono ?_
    rintro e w1 ⟨rfl, hb1⟩
    rw [HFP.out]
    have HB1 := Lib.hid (HB0.out.trans (hb1.mono HB0.out.size))
    have HK1 := Lib.hid (Blk.below HK0.out hb1 HK0.out.lt)
    clear hb1
    go_wp2_with fail
    go_loopw [5, 21] (FpRel w w.heap.size l n) (fun _ i _ => n - (intOf i).toNat)
    case atStart => exact ⟨0, [], Nat.zero_le _, rfl, rfl, rfl, Nat.le_refl _, Blk.alloc HK1.out _, HB1.out.alloc HB1.out.size _⟩
    case round =>
      obtain ⟨k, T, hk, rfl, rfl, hgo, hTl, hres, hb⟩ := hrel
      have hz := hb.size
      by_cases hlt : k < n
      · obtain ⟨p, hp⟩ : ∃ z, l[k]? = some z := ⟨_, List.getElem?_eq_getElem (by rw [HLEN.out]; exact hlt)⟩
        have hpp := HALL.out p (List.mem_of_getElem? hp)
        have hpk := part_kinds hpp
        have hpl := partW_len hpp
        have hfl := flat_len (partW p) hpl.2
        have hfl2 : (partW p).length * 4301 ≤ 300 * 4301 := Nat.mul_le_mul_right _ hpl.1
        have htl := partT_len hpp
        rw [drop_at hp, show fileT (p :: l.drop (k + 1)) = partT p ++ fileT (l.drop (k + 1)) from rfl] at hgo
        obtain ⟨b, off, A', n', c', L1, L2, L3, R1, R2, R3, a1, a2, a3, x1, x2, x3, b1, b2, b3, y1, y2, y3, rfl, hbb, ⟨f0, f1, f2, f3, f4, f5, f6, f7, f8, f9, f10, f11, f12, f13, f14, f15⟩, hs, hn', l1, l2, l3, la1, la2, la3, r1, r2, r3, ra1, ra2, ra3, cl, cr, hm⟩ := part_at HL.out hp
        have d0 := (hb.cell (p := ⟨b, off + k * 16, none⟩) hbb).trans f0
        have d1 := (hb.cell (p := ⟨b, off + k * 16 + 1, none⟩) hbb).trans f1
        have d2 := (hb.cell (p := ⟨b, off + k * 16 + 2, none⟩) hbb).trans f2
        have d3 := (hb.cell (p := ⟨b, off + k * 16 + 3, none⟩) hbb).trans f3
        have d4 := (hb.cell (p := ⟨b, off + k * 16 + 4, none⟩) hbb).trans f4
        have d5 := (hb.cell (p := ⟨b, off + k * 16 + 5, none⟩) hbb).trans f5
        have d6 := (hb.cell (p := ⟨b, off + k * 16 + 6, none⟩) hbb).trans f6
        have d7 := (hb.cell (p := ⟨b, off + k * 16 + 7, none⟩) hbb).trans f7
        have d8 := (hb.cell (p := ⟨b, off + k * 16 + 8, none⟩) hbb).trans f8
        have d9 := (hb.cell (p := ⟨b, off + k * 16 + 9, none⟩) hbb).trans f9
        have d10 := (hb.cell (p := ⟨b, off + k * 16 + 10, none⟩) hbb).trans f10
        have d11 := (hb.cell (p := ⟨b, off + k * 16 + 11, none⟩) hbb).trans f11
        have d12 := (hb.cell (p := ⟨b, off + k * 16 + 12, none⟩) hbb).trans f12
        have d13 := (hb.cell (p := ⟨b, off + k * 16 + 13, none⟩) hbb).trans f13
        have d14 := (hb.cell (p := ⟨b, off + k * 16 + 14, none⟩) hbb).trans f14
        have d15 := (hb.cell (p := ⟨b, off + k * 16 + 15, none⟩) hbb).trans f15
        have HS := Lib.hid (fun (w' : World) (hw : Below w.heap.size w w') => ref_print A' n' c' p.set w' (by unfold maxLen at hn'; omega) (Rd.more (Rd.below hs hw) hw.size))
        have HLw := Lib.hid (fun (k1 : itemsP p.left.before = 0 ∧ itemsP p.left.source = 0 ∧ itemsP p.left.after = 0) (w' : World) (hw : Below w.heap.size w w') => side_words p.left.start p.left.fin L1 L2 L3 a1 a2 a3 x1 x2 x3 p.left.before p.left.source p.left.after p.left.cursor w' (rdit_below l1 hw) (rdit_below l2 hw) (rdit_below l3 hw) k1.1 k1.2.1 k1.2.2)
        have HRw := Lib.hid (fun (k1 : itemsP p.right.before = 0 ∧ itemsP p.right.source = 0 ∧ itemsP p.right.after = 0) (w' : World) (hw : Below w.heap.size w w') => side_words p.right.start p.right.fin R1 R2 R3 b1 b2 b3 y1 y2 y3 p.right.before p.right.source p.right.after p.right.cursor w' (rdit_below r1 hw) (rdit_below r2 hw) (rdit_below r3 hw) k1.1 k1.2.1 k1.2.2)
        clear f0 f1 f2 f3 f4 f5 f6 f7 f8 f9 f10 f11 f12 f13 f14 f15 hs hn' l1 l2 l3 la1 la2 la3 r1 r2 r3 ra1 ra2 ra3 cl cr hm
        have HP1 := Lib.hid (show PrAt w w.heap.size wr.heap.size #[.int .i64 p.kind, .string p.name, .slice A' n' c', .int .i64 p.dir, .bool p.left.start, .bool p.left.fin, .slice L1 a1 x1, .slice L2 a2 x2, .slice L3 a3 x3, .int .i64 p.left.cursor, .bool p.right.start, .bool p.right.fin, .slice R1 b1 y1, .slice R2 b2 y2, .slice R3 b3 y3, .int .i64 p.right.cursor] (wr.alloc (.cells #[.int .i64 p.kind, .string p.name, .slice A' n' c', .int .i64 p.dir, .bool p.left.start, .bool p.left.fin, .slice L1 a1 x1, .slice L2 a2 x2, .slice L3 a3 x3, .int .i64 p.left.cursor, .bool p.right.start, .bool p.right.fin, .slice R1 b1 y1, .slice R2 b2 y2, .slice R3 b3 y3, .int .i64 p.right.cursor] 39)) from ⟨Blk.alloc hres _, Blk.new _ _ _, hb.alloc hz _⟩)
        have HGO := Lib.hid hgo
        have HPW := Lib.hid hpl
        have HFL := Lib.hid hfl
        have HPK := Lib.hid hpk
        have HPP := Lib.hid hpp
        clear hgo hpl hfl hres hpk hpp
        go_upto_block 2 with (first
          | (go_at_call 14
             refine (HS.out _ HP1.out.2.2).mono ?_
             rintro e w2 ⟨rfl, hb2⟩
             have HP2 := Lib.hid (PrAt.below HP1.out hb2)
             have e0 : w2.cell? ⟨wr.heap.size, 0, none⟩ = some (.int .i64 p.kind) := HP2.out.2.1.cell 0
             have e1 : w2.cell? ⟨wr.heap.size, 1, none⟩ = some (.string p.name) := HP2.out.2.1.cell 1
             clear hb2))
        go_cut [8] (fun s8 wx => PwAt w w.heap.size wr.heap.size #[.int .i64 p.kind, .string p.name, .slice A' n' c', .int .i64 p.dir, .bool p.left.start, .bool p.left.fin, .slice L1 a1 x1, .slice L2 a2 x2, .slice L3 a3 x3, .int .i64 p.left.cursor, .bool p.right.start, .bool p.right.fin, .slice R1 b1 y1, .slice R2 b2 y2, .slice R3 b3 y3, .int .i64 p.right.cursor] (partW p) s8 wx)
        case first =>
          have hkk := HPK.out
          rcases hkk with ⟨h1, h2, h3⟩ | ⟨h1, h3⟩ | ⟨h1, h2⟩ | ⟨h1, hr⟩
          · have hv : strVals (partW p) = [.string (⟨#[36]⟩ ++ p.name), .string ⟨#[61]⟩, .string (printP p.set).1] := by
              unfold partW setW
              rw [if_pos h1]
              simp only [strVals, List.map_cons, List.map_nil, ba_list]
              rw [show (⟨(36 :: p.name.data.toList).toArray⟩ : ByteArray) = ⟨#[36]⟩ ++ p.name from by apply ByteArray.ext; simp]
            have hl3 : (partW p).length = 3 := by unfold partW; rw [if_pos h1]; rfl
            have HV := Lib.hid hv
            have HL3 := Lib.hid hl3
            have hnl := named_len h2
            have q1 : (p.kind == 1) = true := by rw [h1]; rfl
            clear h1 h2 h3 hv hl3
            go_wp2_with fail
            go_meet
            exact pw_new _ HP2.out HL3.out HV.out
          · have hv : strVals (partW p) = [.string ⟨#[58, 58]⟩, .string (printP p.set).1] := by
              unfold partW setW
              rw [h1, if_neg (by decide), if_pos rfl]
              simp only [strVals, List.map_cons, List.map_nil, ba_list]
            have hl3 : (partW p).length = 2 := by unfold partW; rw [h1, if_neg (by decide), if_pos rfl]; rfl
            have HV := Lib.hid hv
            have HL3 := Lib.hid hl3
            have q1 : (p.kind == 1) = false := by rw [h1]; rfl
            have q3 : (p.kind == 3) = true := by rw [h1]; rfl
            clear h1 h3 hv hl3
            go_wp2_with fail
            go_meet
            exact pw_new _ HP2.out HL3.out HV.out
          · have hv : strVals (partW p) = [.string ⟨#[58, 58]⟩, .string p.name] := by
              unfold partW
              rw [h1, if_neg (by decide), if_neg (by decide), if_pos rfl]
              simp only [strVals, List.map_cons, List.map_nil, ba_list]
            have hl3 : (partW p).length = 2 := by unfold partW; rw [h1, if_neg (by decide), if_neg (by decide), if_pos rfl]; rfl
            have HV := Lib.hid hv
            have HL3 := Lib.hid hl3
            have q1 : (p.kind == 1) = false := by rw [h1]; rfl
            have q3 : (p.kind == 3) = false := by rw [h1]; rfl
            have q4 : (p.kind == 4) = true := by rw [h1]; rfl
            clear h1 h2 hv hl3
            go_wp2_with fail
            go_meet
            exact pw_new _ HP2.out HL3.out HV.out
          · have hpw : partW p = sideW p.left ++ dirW p.dir :: sideW p.right := by
              unfold partW
              rw [h1, if_neg (by decide), if_neg (by decide), if_neg (by decide)]
            have HPWW := Lib.hid hpw
            have q1 : (p.kind == 1) = false := by rw [h1]; rfl
            have q3 : (p.kind == 3) = false := by rw [h1]; rfl
            have q4 : (p.kind == 4) = false := by rw [h1]; rfl
            have hs1 := (side_len hr.2.1).1
            have hs2 := (side_len hr.2.2).1
            have HR := Lib.hid hr
            have hd := hr.1
            clear h1 hpw hr
            generalize hWL : sideW p.left = WL at *
            generalize hWR : sideW p.right = WR at *
            have HLw2 := Lib.hid (HLw.out HR.out.2.1)
            have HRw2 := Lib.hid (HRw.out HR.out.2.2)
            clear hWL hWR
            rcases hd with hd | hd | hd
            · have HW := Lib.hid (show partW p = WL ++ [62] :: WR by rw [HPWW.out, hd]; rfl)
              have HC := Lib.hid (fun (wx : World) (h : PrAt w w.heap.size wr.heap.size #[.int .i64 p.kind, .string p.name, .slice A' n' c', .int .i64 p.dir, .bool p.left.start, .bool p.left.fin, .slice L1 a1 x1, .slice L2 a2 x2, .slice L3 a3 x3, .int .i64 p.left.cursor, .bool p.right.start, .bool p.right.fin, .slice R1 b1 y1, .slice R2 b2 y2, .slice R3 b3 y3, .int .i64 p.right.cursor] wx) => show (fun w' => w'.cell? ⟨wr.heap.size, 3, none⟩ = some (.int .i64 1) ∧ w'.cell? ⟨wr.heap.size, 4, none⟩ = some (.bool p.left.start) ∧ w'.cell? ⟨wr.heap.size, 5, none⟩ = some (.bool p.left.fin) ∧ w'.cell? ⟨wr.heap.size, 6, none⟩ = some (.slice L1 a1 x1) ∧ w'.cell? ⟨wr.heap.size, 7, none⟩ = some (.slice L2 a2 x2) ∧ w'.cell? ⟨wr.heap.size, 8, none⟩ = some (.slice L3 a3 x3) ∧ w'.cell? ⟨wr.heap.size, 9, none⟩ = some (.int .i64 p.left.cursor) ∧ w'.cell? ⟨wr.heap.size, 10, none⟩ = some (.bool p.right.start) ∧ w'.cell? ⟨wr.heap.size, 11, none⟩ = some (.bool p.right.fin) ∧ w'.cell? ⟨wr.heap.size, 12, none⟩ = some (.slice R1 b1 y1) ∧ w'.cell? ⟨wr.heap.size, 13, none⟩ = some (.slice R2 b2 y2) ∧ w'.cell? ⟨wr.heap.size, 14, none⟩ = some (.slice R3 b3 y3) ∧ w'.cell? ⟨wr.heap.size, 15, none⟩ = some (.int .i64 p.right.cursor)) wx from ⟨(h.2.1.cell 3).trans (by rw [← hd]; rfl), h.2.1.cell 4, h.2.1.cell 5, h.2.1.cell 6, h.2.1.cell 7, h.2.1.cell 8, h.2.1.cell 9, h.2.1.cell 10, h.2.1.cell 11, h.2.1.cell 12, h.2.1.cell 13, h.2.1.cell 14, h.2.1.cell 15⟩)
              have hwr : IntKind.i64.wrap 0 = 0 := by decide
              clear hd
              go_upto_region 11 with fail
              refine wp_region_held_drew (S := fun w' => w'.cell? ⟨wr.heap.size, 3, none⟩ = some (.int .i64 1) ∧ w'.cell? ⟨wr.heap.size, 4, none⟩ = some (.bool p.left.start) ∧ w'.cell? ⟨wr.heap.size, 5, none⟩ = some (.bool p.left.fin) ∧ w'.cell? ⟨wr.heap.size, 6, none⟩ = some (.slice L1 a1 x1) ∧ w'.cell? ⟨wr.heap.size, 7, none⟩ = some (.slice L2 a2 x2) ∧ w'.cell? ⟨wr.heap.size, 8, none⟩ = some (.slice L3 a3 x3) ∧ w'.cell? ⟨wr.heap.size, 9, none⟩ = some (.int .i64 p.left.cursor) ∧ w'.cell? ⟨wr.heap.size, 10, none⟩ = some (.bool p.right.start) ∧ w'.cell? ⟨wr.heap.size, 11, none⟩ = some (.bool p.right.fin) ∧ w'.cell? ⟨wr.heap.size, 12, none⟩ = some (.slice R1 b1 y1) ∧ w'.cell? ⟨wr.heap.size, 13, none⟩ = some (.slice R2 b2 y2) ∧ w'.cell? ⟨wr.heap.size, 14, none⟩ = some (.slice R3 b3 y3) ∧ w'.cell? ⟨wr.heap.size, 15, none⟩ = some (.int .i64 p.right.cursor)) (by kernel_rfl) (HC.out _ (PrAt.drew HP2.out)) (fun hHeld => ?_)
              refine wpAnyH_take (i := 0) (v := ?_) rfl (by kernel_rfl) (by kernel_rfl) (by kernel_rfl) (fun _ _ _ h => h) (Or.inl ⟨by rfl, ?_⟩) (by assumption) ?_
              rotate_left 1
              · intro w hSw
                (try dsimp only at hSw)
                go_simp
                try with_reducible rfl
              try simp only [Act.put]
              refine wpAnyH_take (i := 1) (v := ?_) rfl (by kernel_rfl) (by kernel_rfl) (by kernel_rfl) (fun _ _ _ h => h) (Or.inl ⟨by rfl, ?_⟩) (by assumption) ?_
              rotate_left 1
              · intro w hSw
                (try dsimp only at hSw)
                go_simp
                try with_reducible rfl
              try simp only [Act.put]
              refine wpAnyH_take (i := 4) (v := ?_) rfl (by kernel_rfl) (by kernel_rfl) (by kernel_rfl) (fun _ _ _ h => h) (Or.inl ⟨by rfl, ?_⟩) (by assumption) ?_
              rotate_left 1
              · intro w hSw
                (try dsimp only at hSw)
                go_simp
                try with_reducible rfl
              try simp only [Act.put]
              refine wpAnyH_take (i := 5) (v := ?_) rfl (by kernel_rfl) (by kernel_rfl) (by kernel_rfl) (fun _ _ _ h => h) (Or.inl ⟨by rfl, ?_⟩) (by assumption) ?_
              rotate_left 1
              · intro w hSw
                (try dsimp only at hSw)
                go_simp
                try with_reducible rfl
              try simp only [Act.put]
              refine wpAnyH_take (i := 6) (v := ?_) rfl (by kernel_rfl) (by kernel_rfl) (by kernel_rfl) (fun _ _ _ h => h) (Or.inl ⟨by rfl, ?_⟩) (by assumption) ?_
              rotate_left 1
              · intro w hSw
                (try dsimp only at hSw)
                go_simp
                try with_reducible rfl
              try simp only [Act.put]
              refine wpAnyH_take (i := 11) (v := ?_) rfl (by kernel_rfl) (by kernel_rfl) (by kernel_rfl) (fun _ _ _ h => h) (Or.inl ⟨by rfl, ?_⟩) (by assumption) ?_
              rotate_left 1
              · intro w hSw
                (try dsimp only at hSw)
                go_simp
                try with_reducible rfl
              try simp only [Act.put]
              refine wpAnyH_take (i := 12) (v := ?_) rfl (by kernel_rfl) (by kernel_rfl) (by kernel_rfl) (fun _ _ _ h => h) (Or.inl ⟨by rfl, ?_⟩) (by assumption) ?_
              rotate_left 1
              · intro w hSw
                (try dsimp only at hSw)
                go_simp
                try with_reducible rfl
              try simp only [Act.put]
              refine wpAnyH_ready (rs := [2, 3]) (by kernel_rfl) (by simp) ?_
              refine AllReadyH.cons rfl (fun K hK => ?_) (AllReadyH.cons rfl (fun K hK => ?_) AllReadyH.nil)
              · go_simp
                go_at_call_of 15 (Value.slice L1 a1 x1)
                refine (HLw2.out _ ?_).mono ?_
                · exact (PrAt.drew HP2.out).2.2
                rintro e w3 ⟨⟨v3, rfl, ho3⟩, hb3⟩
                have HPa := Lib.hid (PrAt.below (PrAt.drew HP2.out) hb3)
                have HO3 := Lib.hid (show OwnT w3 w.heap.size v3 WL from own_mono ho3 (PrAt.drew HP2.out).2.2.size)
                clear ho3
                dsimp only
                refine hK.out _ _ ?_ (fun hHeld => ?_)
                · exact HC.out _ HPa.out
                clear hK K
                refine wpAnyH_ready (rs := [3]) (by kernel_rfl) (by simp) ?_
                refine AllReadyH.cons rfl (fun K hK => ?_) AllReadyH.nil
                go_simp
                refine hK.out _ _ ?_ (fun hHeld => ?_)
                · exact HC.out _ (PrAt.alloc HPa.out _)
                clear hK K
                have HPr := Lib.hid (PrAt.alloc HPa.out (.cells #[.string ⟨#[62]⟩, .string ⟨#[60]⟩, .string ⟨#[60, 62]⟩] 9))
                have HOr := Lib.hid (World.ownsRow.alloc HO3.out (.cells #[.string ⟨#[62]⟩, .string ⟨#[60]⟩, .string ⟨#[60, 62]⟩] 9))
                have hN1 := Rd.new (w3.alloc (.cells #[.string ⟨#[62]⟩, .string ⟨#[60]⟩, .string ⟨#[60, 62]⟩] 9)) 9 1 1 [.string ⟨#[62]⟩] rfl
                rw [show (w3.alloc (.cells #[.string ⟨#[62]⟩, .string ⟨#[60]⟩, .string ⟨#[60, 62]⟩] 9)).heap.size = w3.heap.size + 1 by simp] at hN1
                have HN1 := Lib.hid hN1
                clear hN1 hb3
                refine wpAnyH_ready (rs := [7]) (by kernel_rfl) (by simp) ?_
                refine AllReadyH.cons rfl (fun K hK => ?_) AllReadyH.nil
                go_simp
                refine hK.out _ _ ?_ (fun hHeld => ?_)
                · exact HC.out _ HPr.out
                clear hK K
                refine wpAnyH_ready (rs := [8]) (by kernel_rfl) (by simp) ?_
                refine AllReadyH.cons rfl (fun K hK => ?_) AllReadyH.nil
                go_simp
                refine hK.out _ _ ?_ (fun hHeld => ?_)
                · exact HC.out _ HPr.out
                clear hK K
                refine wpAnyH_ready (rs := [9]) (by kernel_rfl) (by simp) ?_
                refine AllReadyH.cons rfl (fun K hK => ?_) AllReadyH.nil
                go_simp
                refine hK.out _ _ ?_ (fun hHeld => ?_)
                · exact HC.out _ (PrAt.alloc HPr.out _)
                clear hK K
                refine wpAnyH_ready (rs := [10]) (by kernel_rfl) (by simp) ?_
                refine AllReadyH.cons rfl (fun K hK => ?_) AllReadyH.nil
                refine step_append_rd _ rfl (.tmp 35) (.tmp 42) 47 rfl w.heap.size 9 i0 _ 1 16 Tryd.underlying47 hi hz0 hz1 hz2 rfl (by decide) _ _ _ rfl (World.ownsRow.alloc HOr.out (.cells #[.string ⟨#[62]⟩] 9)) _ _ 1 1 [.string ⟨#[62]⟩] rfl HN1.out (strVals_one [[62]]) (by simp only [maxLen]; omega) (by omega) (PrAt.alloc HPr.out (.cells #[.string ⟨#[62]⟩] 9)).2.2.size ?_
                intro v4 w4 happ
                have HPb := Lib.hid (PrAt.app (PrAt.alloc HPr.out (.cells #[.string ⟨#[62]⟩] 9)) (World.ownsRow.alloc HOr.out (.cells #[.string ⟨#[62]⟩] 9)) (Nat.le_refl _) happ)
                have HO4 := Lib.hid (OwnT.push (x := [62]) rfl WL happ)
                clear happ
                refine hK.out _ _ ?_ (fun hHeld => ?_)
                · exact HC.out _ HPb.out
                clear hK K
                refine wpAnyH_ready (rs := [13]) (by kernel_rfl) (by simp) ?_
                refine AllReadyH.cons rfl (fun K hK => ?_) AllReadyH.nil
                go_simp
                go_at_call_of 15 (Value.slice R1 b1 y1)
                refine (HRw2.out _ ?_).mono ?_
                · exact HPb.out.2.2
                rintro e w5 ⟨⟨v5, rfl, ho5⟩, hb5⟩
                obtain ⟨A5, c5, rfl, _⟩ := own_form ho5
                have HPc := Lib.hid (PrAt.below HPb.out hb5)
                have HO5 := Lib.hid (own_below HO4.out hb5)
                have HR5 := Lib.hid (OwnT.rd ho5 rfl)
                clear ho5 hb5
                dsimp only
                refine hK.out _ _ ?_ (fun hHeld => ?_)
                · exact HC.out _ HPc.out
                clear hK K
                refine wpAnyH_ready (rs := [14]) (by kernel_rfl) (by simp) ?_
                refine AllReadyH.cons rfl (fun K hK => ?_) AllReadyH.nil
                refine step_append_rd _ rfl (.tmp 43) (.tmp 46) 47 rfl w.heap.size 9 i0 _ 1 16 Tryd.underlying47 hi hz0 hz1 hz2 rfl (by decide) _ _ _ rfl HO5.out _ _ _ _ (strVals WR) rfl HR5.out (strVals_one WR) (by simp only [maxLen, List.length_append, List.length_cons, List.length_nil]; omega) (by simp only [List.length_append, List.length_cons, List.length_nil]; omega) HPc.out.2.2.size ?_
                intro v6 w6 happ
                have HPd := Lib.hid (PrAt.app HPc.out HO5.out (Nat.le_refl _) happ)
                have HO6 := Lib.hid (OwnT.of happ (by simp; omega) (strVals_append _ _))
                clear happ
                refine hK.out _ _ ?_ (fun hHeld => ?_)
                · exact HC.out _ HPd.out
                clear hK K
                refine wpAnyH_take (i := 15) (v := ?_) rfl (by kernel_rfl) (by kernel_rfl) (by kernel_rfl) (fun _ _ _ h => h) (Or.inl ⟨by rfl, ?_⟩) (by assumption) ?_
                rotate_left 1
                · intro w hSw
                  (try dsimp only at hSw)
                  go_simp
                  try with_reducible rfl
                try simp only [Act.put]
                refine wpAnyH_done (by kernel_rfl) ?_ _
                go_simp
                go_wp2_with fail
                go_meet
                have := pw_own HPd.out HO6.out
                rw [HW.out]
                simpa using this
              · go_simp
                refine hK.out _ _ ?_ (fun hHeld => ?_)
                · exact HC.out _ (PrAt.alloc (PrAt.drew HP2.out) (.cells #[.string ⟨#[62]⟩, .string ⟨#[60]⟩, .string ⟨#[60, 62]⟩] 9))
                clear hK K
                refine wpAnyH_ready (rs := [2, 7]) (by kernel_rfl) (by simp) ?_
                refine AllReadyH.cons rfl (fun K hK => ?_) (AllReadyH.cons rfl (fun K hK => ?_) AllReadyH.nil)
                · go_simp
                  go_at_call_of 15 (Value.slice L1 a1 x1)
                  refine (HLw2.out _ ?_).mono ?_
                  · exact (PrAt.alloc (PrAt.drew HP2.out) (.cells #[.string ⟨#[62]⟩, .string ⟨#[60]⟩, .string ⟨#[60, 62]⟩] 9)).2.2
                  rintro e w3 ⟨⟨v3, rfl, ho3⟩, hb3⟩
                  have HPa := Lib.hid (PrAt.below (PrAt.alloc (PrAt.drew HP2.out) (.cells #[.string ⟨#[62]⟩, .string ⟨#[60]⟩, .string ⟨#[60, 62]⟩] 9)) hb3)
                  have HO3 := Lib.hid (show OwnT w3 w.heap.size v3 WL from own_mono ho3 (PrAt.alloc (PrAt.drew HP2.out) (.cells #[.string ⟨#[62]⟩, .string ⟨#[60]⟩, .string ⟨#[60, 62]⟩] 9)).2.2.size)
                  clear ho3
                  dsimp only
                  refine hK.out _ _ ?_ (fun hHeld => ?_)
                  · exact HC.out _ HPa.out
                  clear hK K
                  have HPr := HPa
                  have HOr := HO3
                  have HN1 := Lib.hid (Rd.new w3 9 1 1 [.string ⟨#[62]⟩] rfl)
                  have hrow : w3.cell? ⟨w2.heap.size, 0, none⟩ = some (.string ⟨#[62]⟩) := (hb3.cell (by simp)).trans ((Blk.new w2.drew 9 #[.string ⟨#[62]⟩, .string ⟨#[60]⟩, .string ⟨#[60, 62]⟩]).cell 0)
                  clear hb3
                  refine wpAnyH_ready (rs := [7]) (by kernel_rfl) (by simp) ?_
                  refine AllReadyH.cons rfl (fun K hK => ?_) AllReadyH.nil
                  go_simp
                  refine hK.out _ _ ?_ (fun hHeld => ?_)
                  · exact HC.out _ HPr.out
                  clear hK K
                  refine wpAnyH_ready (rs := [8]) (by kernel_rfl) (by simp) ?_
                  refine AllReadyH.cons rfl (fun K hK => ?_) AllReadyH.nil
                  go_simp
                  refine hK.out _ _ ?_ (fun hHeld => ?_)
                  · exact HC.out _ HPr.out
                  clear hK K
                  refine wpAnyH_ready (rs := [9]) (by kernel_rfl) (by simp) ?_
                  refine AllReadyH.cons rfl (fun K hK => ?_) AllReadyH.nil
                  go_simp
                  refine hK.out _ _ ?_ (fun hHeld => ?_)
                  · exact HC.out _ (PrAt.alloc HPr.out _)
                  clear hK K
                  refine wpAnyH_ready (rs := [10]) (by kernel_rfl) (by simp) ?_
                  refine AllReadyH.cons rfl (fun K hK => ?_) AllReadyH.nil
                  refine step_append_rd _ rfl (.tmp 35) (.tmp 42) 47 rfl w.heap.size 9 i0 _ 1 16 Tryd.underlying47 hi hz0 hz1 hz2 rfl (by decide) _ _ _ rfl (World.ownsRow.alloc HOr.out (.cells #[.string ⟨#[62]⟩] 9)) _ _ 1 1 [.string ⟨#[62]⟩] rfl HN1.out (strVals_one [[62]]) (by simp only [maxLen]; omega) (by omega) (PrAt.alloc HPr.out (.cells #[.string ⟨#[62]⟩] 9)).2.2.size ?_
                  intro v4 w4 happ
                  have HPb := Lib.hid (PrAt.app (PrAt.alloc HPr.out (.cells #[.string ⟨#[62]⟩] 9)) (World.ownsRow.alloc HOr.out (.cells #[.string ⟨#[62]⟩] 9)) (Nat.le_refl _) happ)
                  have HO4 := Lib.hid (OwnT.push (x := [62]) rfl WL happ)
                  clear happ
                  refine hK.out _ _ ?_ (fun hHeld => ?_)
                  · exact HC.out _ HPb.out
                  clear hK K
                  refine wpAnyH_ready (rs := [13]) (by kernel_rfl) (by simp) ?_
                  refine AllReadyH.cons rfl (fun K hK => ?_) AllReadyH.nil
                  go_simp
                  go_at_call_of 15 (Value.slice R1 b1 y1)
                  refine (HRw2.out _ ?_).mono ?_
                  · exact HPb.out.2.2
                  rintro e w5 ⟨⟨v5, rfl, ho5⟩, hb5⟩
                  obtain ⟨A5, c5, rfl, _⟩ := own_form ho5
                  have HPc := Lib.hid (PrAt.below HPb.out hb5)
                  have HO5 := Lib.hid (own_below HO4.out hb5)
                  have HR5 := Lib.hid (OwnT.rd ho5 rfl)
                  clear ho5 hb5
                  dsimp only
                  refine hK.out _ _ ?_ (fun hHeld => ?_)
                  · exact HC.out _ HPc.out
                  clear hK K
                  refine wpAnyH_ready (rs := [14]) (by kernel_rfl) (by simp) ?_
                  refine AllReadyH.cons rfl (fun K hK => ?_) AllReadyH.nil
                  refine step_append_rd _ rfl (.tmp 43) (.tmp 46) 47 rfl w.heap.size 9 i0 _ 1 16 Tryd.underlying47 hi hz0 hz1 hz2 rfl (by decide) _ _ _ rfl HO5.out _ _ _ _ (strVals WR) rfl HR5.out (strVals_one WR) (by simp only [maxLen, List.length_append, List.length_cons, List.length_nil]; omega) (by simp only [List.length_append, List.length_cons, List.length_nil]; omega) HPc.out.2.2.size ?_
                  intro v6 w6 happ
                  have HPd := Lib.hid (PrAt.app HPc.out HO5.out (Nat.le_refl _) happ)
                  have HO6 := Lib.hid (OwnT.of happ (by simp; omega) (strVals_append _ _))
                  clear happ
                  refine hK.out _ _ ?_ (fun hHeld => ?_)
                  · exact HC.out _ HPd.out
                  clear hK K
                  refine wpAnyH_take (i := 15) (v := ?_) rfl (by kernel_rfl) (by kernel_rfl) (by kernel_rfl) (fun _ _ _ h => h) (Or.inl ⟨by rfl, ?_⟩) (by assumption) ?_
                  rotate_left 1
                  · intro w hSw
                    (try dsimp only at hSw)
                    go_simp
                    try with_reducible rfl
                  try simp only [Act.put]
                  refine wpAnyH_done (by kernel_rfl) ?_ _
                  go_simp
                  go_wp2_with fail
                  go_meet
                  have := pw_own HPd.out HO6.out
                  rw [HW.out]
                  simpa using this
                · go_simp
                  refine hK.out _ _ ?_ (fun hHeld => ?_)
                  · exact HC.out _ (PrAt.alloc (PrAt.drew HP2.out) (.cells #[.string ⟨#[62]⟩, .string ⟨#[60]⟩, .string ⟨#[60, 62]⟩] 9))
                  clear hK K
                  refine wpAnyH_ready (rs := [2, 8]) (by kernel_rfl) (by simp) ?_
                  refine AllReadyH.cons rfl (fun K hK => ?_) (AllReadyH.cons rfl (fun K hK => ?_) AllReadyH.nil)
                  · go_simp
                    go_at_call_of 15 (Value.slice L1 a1 x1)
                    refine (HLw2.out _ ?_).mono ?_
                    · exact (PrAt.alloc (PrAt.drew HP2.out) (.cells #[.string ⟨#[62]⟩, .string ⟨#[60]⟩, .string ⟨#[60, 62]⟩] 9)).2.2
                    rintro e w3 ⟨⟨v3, rfl, ho3⟩, hb3⟩
                    have HPa := Lib.hid (PrAt.below (PrAt.alloc (PrAt.drew HP2.out) (.cells #[.string ⟨#[62]⟩, .string ⟨#[60]⟩, .string ⟨#[60, 62]⟩] 9)) hb3)
                    have HO3 := Lib.hid (show OwnT w3 w.heap.size v3 WL from own_mono ho3 (PrAt.alloc (PrAt.drew HP2.out) (.cells #[.string ⟨#[62]⟩, .string ⟨#[60]⟩, .string ⟨#[60, 62]⟩] 9)).2.2.size)
                    clear ho3
                    dsimp only
                    refine hK.out _ _ ?_ (fun hHeld => ?_)
                    · exact HC.out _ HPa.out
                    clear hK K
                    have HPr := HPa
                    have HOr := HO3
                    have HN1 := Lib.hid (Rd.new w3 9 1 1 [.string ⟨#[62]⟩] rfl)
                    have hrow : w3.cell? ⟨w2.heap.size, 0, none⟩ = some (.string ⟨#[62]⟩) := (hb3.cell (by simp)).trans ((Blk.new w2.drew 9 #[.string ⟨#[62]⟩, .string ⟨#[60]⟩, .string ⟨#[60, 62]⟩]).cell 0)
                    clear hb3
                    refine wpAnyH_ready (rs := [8]) (by kernel_rfl) (by simp) ?_
                    refine AllReadyH.cons rfl (fun K hK => ?_) AllReadyH.nil
                    go_simp
                    refine hK.out _ _ ?_ (fun hHeld => ?_)
                    · exact HC.out _ HPr.out
                    clear hK K
                    refine wpAnyH_ready (rs := [9]) (by kernel_rfl) (by simp) ?_
                    refine AllReadyH.cons rfl (fun K hK => ?_) AllReadyH.nil
                    go_simp
                    refine hK.out _ _ ?_ (fun hHeld => ?_)
                    · exact HC.out _ (PrAt.alloc HPr.out _)
                    clear hK K
                    refine wpAnyH_ready (rs := [10]) (by kernel_rfl) (by simp) ?_
                    refine AllReadyH.cons rfl (fun K hK => ?_) AllReadyH.nil
                    refine step_append_rd _ rfl (.tmp 35) (.tmp 42) 47 rfl w.heap.size 9 i0 _ 1 16 Tryd.underlying47 hi hz0 hz1 hz2 rfl (by decide) _ _ _ rfl (World.ownsRow.alloc HOr.out (.cells #[.string ⟨#[62]⟩] 9)) _ _ 1 1 [.string ⟨#[62]⟩] rfl HN1.out (strVals_one [[62]]) (by simp only [maxLen]; omega) (by omega) (PrAt.alloc HPr.out (.cells #[.string ⟨#[62]⟩] 9)).2.2.size ?_
                    intro v4 w4 happ
                    have HPb := Lib.hid (PrAt.app (PrAt.alloc HPr.out (.cells #[.string ⟨#[62]⟩] 9)) (World.ownsRow.alloc HOr.out (.cells #[.string ⟨#[62]⟩] 9)) (Nat.le_refl _) happ)
                    have HO4 := Lib.hid (OwnT.push (x := [62]) rfl WL happ)
                    clear happ
                    refine hK.out _ _ ?_ (fun hHeld => ?_)
                    · exact HC.out _ HPb.out
                    clear hK K
                    refine wpAnyH_ready (rs := [13]) (by kernel_rfl) (by simp) ?_
                    refine AllReadyH.cons rfl (fun K hK => ?_) AllReadyH.nil
                    go_simp
                    go_at_call_of 15 (Value.slice R1 b1 y1)
                    refine (HRw2.out _ ?_).mono ?_
                    · exact HPb.out.2.2
                    rintro e w5 ⟨⟨v5, rfl, ho5⟩, hb5⟩
                    obtain ⟨A5, c5, rfl, _⟩ := own_form ho5
                    have HPc := Lib.hid (PrAt.below HPb.out hb5)
                    have HO5 := Lib.hid (own_below HO4.out hb5)
                    have HR5 := Lib.hid (OwnT.rd ho5 rfl)
                    clear ho5 hb5
                    dsimp only
                    refine hK.out _ _ ?_ (fun hHeld => ?_)
                    · exact HC.out _ HPc.out
                    clear hK K
                    refine wpAnyH_ready (rs := [14]) (by kernel_rfl) (by simp) ?_
                    refine AllReadyH.cons rfl (fun K hK => ?_) AllReadyH.nil
                    refine step_append_rd _ rfl (.tmp 43) (.tmp 46) 47 rfl w.heap.size 9 i0 _ 1 16 Tryd.underlying47 hi hz0 hz1 hz2 rfl (by decide) _ _ _ rfl HO5.out _ _ _ _ (strVals WR) rfl HR5.out (strVals_one WR) (by simp only [maxLen, List.length_append, List.length_cons, List.length_nil]; omega) (by simp only [List.length_append, List.length_cons, List.length_nil]; omega) HPc.out.2.2.size ?_
                    intro v6 w6 happ
                    have HPd := Lib.hid (PrAt.app HPc.out HO5.out (Nat.le_refl _) happ)
                    have HO6 := Lib.hid (OwnT.of happ (by simp; omega) (strVals_append _ _))
                    clear happ
                    refine hK.out _ _ ?_ (fun hHeld => ?_)
                    · exact HC.out _ HPd.out
                    clear hK K
                    refine wpAnyH_take (i := 15) (v := ?_) rfl (by kernel_rfl) (by kernel_rfl) (by kernel_rfl) (fun _ _ _ h => h) (Or.inl ⟨by rfl, ?_⟩) (by assumption) ?_
                    rotate_left 1
                    · intro w hSw
                      (try dsimp only at hSw)
                      go_simp
                      try with_reducible rfl
                    try simp only [Act.put]
                    refine wpAnyH_done (by kernel_rfl) ?_ _
                    go_simp
                    go_wp2_with fail
                    go_meet
                    have := pw_own HPd.out HO6.out
                    rw [HW.out]
                    simpa using this
                  · go_simp
                    refine hK.out _ _ ?_ (fun hHeld => ?_)
                    · exact HC.out _ (PrAt.alloc (PrAt.drew HP2.out) (.cells #[.string ⟨#[62]⟩, .string ⟨#[60]⟩, .string ⟨#[60, 62]⟩] 9))
                    clear hK K
                    refine wpAnyH_ready (rs := [2, 9]) (by kernel_rfl) (by simp) ?_
                    refine AllReadyH.cons rfl (fun K hK => ?_) (AllReadyH.cons rfl (fun K hK => ?_) AllReadyH.nil)
                    · go_simp
                      go_at_call_of 15 (Value.slice L1 a1 x1)
                      refine (HLw2.out _ ?_).mono ?_
                      · exact (PrAt.alloc (PrAt.drew HP2.out) (.cells #[.string ⟨#[62]⟩, .string ⟨#[60]⟩, .string ⟨#[60, 62]⟩] 9)).2.2
                      rintro e w3 ⟨⟨v3, rfl, ho3⟩, hb3⟩
                      have HPa := Lib.hid (PrAt.below (PrAt.alloc (PrAt.drew HP2.out) (.cells #[.string ⟨#[62]⟩, .string ⟨#[60]⟩, .string ⟨#[60, 62]⟩] 9)) hb3)
                      have HO3 := Lib.hid (show OwnT w3 w.heap.size v3 WL from own_mono ho3 (PrAt.alloc (PrAt.drew HP2.out) (.cells #[.string ⟨#[62]⟩, .string ⟨#[60]⟩, .string ⟨#[60, 62]⟩] 9)).2.2.size)
                      clear ho3
                      dsimp only
                      refine hK.out _ _ ?_ (fun hHeld => ?_)
                      · exact HC.out _ HPa.out
                      clear hK K
                      have HPr := HPa
                      have HOr := HO3
                      have HN1 := Lib.hid (Rd.new w3 9 1 1 [.string ⟨#[62]⟩] rfl)
                      clear hb3
                      refine wpAnyH_ready (rs := [9]) (by kernel_rfl) (by simp) ?_
                      refine AllReadyH.cons rfl (fun K hK => ?_) AllReadyH.nil
                      go_simp
                      refine hK.out _ _ ?_ (fun hHeld => ?_)
                      · exact HC.out _ (PrAt.alloc HPr.out _)
                      clear hK K
                      refine wpAnyH_ready (rs := [10]) (by kernel_rfl) (by simp) ?_
                      refine AllReadyH.cons rfl (fun K hK => ?_) AllReadyH.nil
                      refine step_append_rd _ rfl (.tmp 35) (.tmp 42) 47 rfl w.heap.size 9 i0 _ 1 16 Tryd.underlying47 hi hz0 hz1 hz2 rfl (by decide) _ _ _ rfl (World.ownsRow.alloc HOr.out (.cells #[.string ⟨#[62]⟩] 9)) _ _ 1 1 [.string ⟨#[62]⟩] rfl HN1.out (strVals_one [[62]]) (by simp only [maxLen]; omega) (by omega) (PrAt.alloc HPr.out (.cells #[.string ⟨#[62]⟩] 9)).2.2.size ?_
                      intro v4 w4 happ
                      have HPb := Lib.hid (PrAt.app (PrAt.alloc HPr.out (.cells #[.string ⟨#[62]⟩] 9)) (World.ownsRow.alloc HOr.out (.cells #[.string ⟨#[62]⟩] 9)) (Nat.le_refl _) happ)
                      have HO4 := Lib.hid (OwnT.push (x := [62]) rfl WL happ)
                      clear happ
                      refine hK.out _ _ ?_ (fun hHeld => ?_)
                      · exact HC.out _ HPb.out
                      clear hK K
                      refine wpAnyH_ready (rs := [13]) (by kernel_rfl) (by simp) ?_
                      refine AllReadyH.cons rfl (fun K hK => ?_) AllReadyH.nil
                      go_simp
                      go_at_call_of 15 (Value.slice R1 b1 y1)
                      refine (HRw2.out _ ?_).mono ?_
                      · exact HPb.out.2.2
                      rintro e w5 ⟨⟨v5, rfl, ho5⟩, hb5⟩
                      obtain ⟨A5, c5, rfl, _⟩ := own_form ho5
                      have HPc := Lib.hid (PrAt.below HPb.out hb5)
                      have HO5 := Lib.hid (own_below HO4.out hb5)
                      have HR5 := Lib.hid (OwnT.rd ho5 rfl)
                      clear ho5 hb5
                      dsimp only
                      refine hK.out _ _ ?_ (fun hHeld => ?_)
                      · exact HC.out _ HPc.out
                      clear hK K
                      refine wpAnyH_ready (rs := [14]) (by kernel_rfl) (by simp) ?_
                      refine AllReadyH.cons rfl (fun K hK => ?_) AllReadyH.nil
                      refine step_append_rd _ rfl (.tmp 43) (.tmp 46) 47 rfl w.heap.size 9 i0 _ 1 16 Tryd.underlying47 hi hz0 hz1 hz2 rfl (by decide) _ _ _ rfl HO5.out _ _ _ _ (strVals WR) rfl HR5.out (strVals_one WR) (by simp only [maxLen, List.length_append, List.length_cons, List.length_nil]; omega) (by simp only [List.length_append, List.length_cons, List.length_nil]; omega) HPc.out.2.2.size ?_
                      intro v6 w6 happ
                      have HPd := Lib.hid (PrAt.app HPc.out HO5.out (Nat.le_refl _) happ)
                      have HO6 := Lib.hid (OwnT.of happ (by simp; omega) (strVals_append _ _))
                      clear happ
                      refine hK.out _ _ ?_ (fun hHeld => ?_)
                      · exact HC.out _ HPd.out
                      clear hK K
                      refine wpAnyH_take (i := 15) (v := ?_) rfl (by kernel_rfl) (by kernel_rfl) (by kernel_rfl) (fun _ _ _ h => h) (Or.inl ⟨by rfl, ?_⟩) (by assumption) ?_
                      rotate_left 1
                      · intro w hSw
                        (try dsimp only at hSw)
                        go_simp
                        try with_reducible rfl
                      try simp only [Act.put]
                      refine wpAnyH_done (by kernel_rfl) ?_ _
                      go_simp
                      go_wp2_with fail
                      go_meet
                      have := pw_own HPd.out HO6.out
                      rw [HW.out]
                      simpa using this
                    · go_simp
                      refine hK.out _ _ ?_ (fun hHeld => ?_)
                      · exact HC.out _ (PrAt.alloc (PrAt.alloc (PrAt.drew HP2.out) (.cells #[.string ⟨#[62]⟩, .string ⟨#[60]⟩, .string ⟨#[60, 62]⟩] 9)) (.cells #[.string ⟨#[62]⟩] 9))
                      clear hK K
                      refine wpAnyH_ready (rs := [2]) (by kernel_rfl) (by simp) ?_
                      refine AllReadyH.cons rfl (fun K hK => ?_) AllReadyH.nil
                      go_simp
                      go_at_call_of 15 (Value.slice L1 a1 x1)
                      refine (HLw2.out _ ?_).mono ?_
                      · exact (PrAt.alloc (PrAt.alloc (PrAt.drew HP2.out) (.cells #[.string ⟨#[62]⟩, .string ⟨#[60]⟩, .string ⟨#[60, 62]⟩] 9)) (.cells #[.string ⟨#[62]⟩] 9)).2.2
                      rintro e w3 ⟨⟨v3, rfl, ho3⟩, hb3⟩
                      have HPa := Lib.hid (PrAt.below (PrAt.alloc (PrAt.alloc (PrAt.drew HP2.out) (.cells #[.string ⟨#[62]⟩, .string ⟨#[60]⟩, .string ⟨#[60, 62]⟩] 9)) (.cells #[.string ⟨#[62]⟩] 9)) hb3)
                      have HO3 := Lib.hid (show OwnT w3 w.heap.size v3 WL from own_mono ho3 (PrAt.alloc (PrAt.alloc (PrAt.drew HP2.out) (.cells #[.string ⟨#[62]⟩, .string ⟨#[60]⟩, .string ⟨#[60, 62]⟩] 9)) (.cells #[.string ⟨#[62]⟩] 9)).2.2.size)
                      clear ho3
                      dsimp only
                      refine hK.out _ _ ?_ (fun hHeld => ?_)
                      · exact HC.out _ HPa.out
                      clear hK K
                      have hN1 := Rd.below (Rd.more (Rd.new (w2.drew.alloc (.cells #[.string ⟨#[62]⟩, .string ⟨#[60]⟩, .string ⟨#[60, 62]⟩] 9)) 9 1 1 [.string ⟨#[62]⟩] rfl) (show _ ≤ ((w2.drew.alloc (.cells #[.string ⟨#[62]⟩, .string ⟨#[60]⟩, .string ⟨#[60, 62]⟩] 9)).alloc (.cells #[.string ⟨#[62]⟩] 9)).heap.size by simp)) (show Below ((w2.drew.alloc (.cells #[.string ⟨#[62]⟩, .string ⟨#[60]⟩, .string ⟨#[60, 62]⟩] 9)).alloc (.cells #[.string ⟨#[62]⟩] 9)).heap.size ((w2.drew.alloc (.cells #[.string ⟨#[62]⟩, .string ⟨#[60]⟩, .string ⟨#[60, 62]⟩] 9)).alloc (.cells #[.string ⟨#[62]⟩] 9)) w3 from hb3)
                      rw [show (w2.drew.alloc (.cells #[.string ⟨#[62]⟩, .string ⟨#[60]⟩, .string ⟨#[60, 62]⟩] 9)).heap.size = w2.heap.size + 1 by simp] at hN1
                      have HN1 := Lib.hid hN1
                      clear hN1 hb3
                      refine wpAnyH_ready (rs := [10]) (by kernel_rfl) (by simp) ?_
                      refine AllReadyH.cons rfl (fun K hK => ?_) AllReadyH.nil
                      refine step_append_rd _ rfl (.tmp 35) (.tmp 42) 47 rfl w.heap.size 9 i0 _ 1 16 Tryd.underlying47 hi hz0 hz1 hz2 rfl (by decide) _ _ _ rfl HO3.out _ _ 1 1 [.string ⟨#[62]⟩] rfl HN1.out (strVals_one [[62]]) (by simp only [maxLen]; omega) (by omega) HPa.out.2.2.size ?_
                      intro v4 w4 happ
                      have HPb := Lib.hid (PrAt.app HPa.out HO3.out (Nat.le_refl _) happ)
                      have HO4 := Lib.hid (OwnT.push (x := [62]) rfl WL happ)
                      clear happ
                      refine hK.out _ _ ?_ (fun hHeld => ?_)
                      · exact HC.out _ HPb.out
                      clear hK K
                      refine wpAnyH_ready (rs := [13]) (by kernel_rfl) (by simp) ?_
                      refine AllReadyH.cons rfl (fun K hK => ?_) AllReadyH.nil
                      go_simp
                      go_at_call_of 15 (Value.slice R1 b1 y1)
                      refine (HRw2.out _ ?_).mono ?_
                      · exact HPb.out.2.2
                      rintro e w5 ⟨⟨v5, rfl, ho5⟩, hb5⟩
                      obtain ⟨A5, c5, rfl, _⟩ := own_form ho5
                      have HPc := Lib.hid (PrAt.below HPb.out hb5)
                      have HO5 := Lib.hid (own_below HO4.out hb5)
                      have HR5 := Lib.hid (OwnT.rd ho5 rfl)
                      clear ho5 hb5
                      dsimp only
                      refine hK.out _ _ ?_ (fun hHeld => ?_)
                      · exact HC.out _ HPc.out
                      clear hK K
                      refine wpAnyH_ready (rs := [14]) (by kernel_rfl) (by simp) ?_
                      refine AllReadyH.cons rfl (fun K hK => ?_) AllReadyH.nil
                      refine step_append_rd _ rfl (.tmp 43) (.tmp 46) 47 rfl w.heap.size 9 i0 _ 1 16 Tryd.underlying47 hi hz0 hz1 hz2 rfl (by decide) _ _ _ rfl HO5.out _ _ _ _ (strVals WR) rfl HR5.out (strVals_one WR) (by simp only [maxLen, List.length_append, List.length_cons, List.length_nil]; omega) (by simp only [List.length_append, List.length_cons, List.length_nil]; omega) HPc.out.2.2.size ?_
                      intro v6 w6 happ
                      have HPd := Lib.hid (PrAt.app HPc.out HO5.out (Nat.le_refl _) happ)
                      have HO6 := Lib.hid (OwnT.of happ (by simp; omega) (strVals_append _ _))
                      clear happ
                      refine hK.out _ _ ?_ (fun hHeld => ?_)
                      · exact HC.out _ HPd.out
                      clear hK K
                      refine wpAnyH_take (i := 15) (v := ?_) rfl (by kernel_rfl) (by kernel_rfl) (by kernel_rfl) (fun _ _ _ h => h) (Or.inl ⟨by rfl, ?_⟩) (by assumption) ?_
                      rotate_left 1
                      · intro w hSw
                        (try dsimp only at hSw)
                        go_simp
                        try with_reducible rfl
                      try simp only [Act.put]
                      refine wpAnyH_done (by kernel_rfl) ?_ _
                      go_simp
                      go_wp2_with fail
                      go_meet
                      have := pw_own HPd.out HO6.out
                      rw [HW.out]
                      simpa using this
            · have HW := Lib.hid (show partW p = WL ++ [60] :: WR by rw [HPWW.out, hd]; rfl)
              have HC := Lib.hid (fun (wx : World) (h : PrAt w w.heap.size wr.heap.size #[.int .i64 p.kind, .string p.name, .slice A' n' c', .int .i64 p.dir, .bool p.left.start, .bool p.left.fin, .slice L1 a1 x1, .slice L2 a2 x2, .slice L3 a3 x3, .int .i64 p.left.cursor, .bool p.right.start, .bool p.right.fin, .slice R1 b1 y1, .slice R2 b2 y2, .slice R3 b3 y3, .int .i64 p.right.cursor] wx) => show (fun w' => w'.cell? ⟨wr.heap.size, 3, none⟩ = some (.int .i64 2) ∧ w'.cell? ⟨wr.heap.size, 4, none⟩ = some (.bool p.left.start) ∧ w'.cell? ⟨wr.heap.size, 5, none⟩ = some (.bool p.left.fin) ∧ w'.cell? ⟨wr.heap.size, 6, none⟩ = some (.slice L1 a1 x1) ∧ w'.cell? ⟨wr.heap.size, 7, none⟩ = some (.slice L2 a2 x2) ∧ w'.cell? ⟨wr.heap.size, 8, none⟩ = some (.slice L3 a3 x3) ∧ w'.cell? ⟨wr.heap.size, 9, none⟩ = some (.int .i64 p.left.cursor) ∧ w'.cell? ⟨wr.heap.size, 10, none⟩ = some (.bool p.right.start) ∧ w'.cell? ⟨wr.heap.size, 11, none⟩ = some (.bool p.right.fin) ∧ w'.cell? ⟨wr.heap.size, 12, none⟩ = some (.slice R1 b1 y1) ∧ w'.cell? ⟨wr.heap.size, 13, none⟩ = some (.slice R2 b2 y2) ∧ w'.cell? ⟨wr.heap.size, 14, none⟩ = some (.slice R3 b3 y3) ∧ w'.cell? ⟨wr.heap.size, 15, none⟩ = some (.int .i64 p.right.cursor)) wx from ⟨(h.2.1.cell 3).trans (by rw [← hd]; rfl), h.2.1.cell 4, h.2.1.cell 5, h.2.1.cell 6, h.2.1.cell 7, h.2.1.cell 8, h.2.1.cell 9, h.2.1.cell 10, h.2.1.cell 11, h.2.1.cell 12, h.2.1.cell 13, h.2.1.cell 14, h.2.1.cell 15⟩)
              have hwr : IntKind.i64.wrap 1 = 1 := by decide
              clear hd
              go_upto_region 11 with fail
              refine wp_region_held_drew (S := fun w' => w'.cell? ⟨wr.heap.size, 3, none⟩ = some (.int .i64 2) ∧ w'.cell? ⟨wr.heap.size, 4, none⟩ = some (.bool p.left.start) ∧ w'.cell? ⟨wr.heap.size, 5, none⟩ = some (.bool p.left.fin) ∧ w'.cell? ⟨wr.heap.size, 6, none⟩ = some (.slice L1 a1 x1) ∧ w'.cell? ⟨wr.heap.size, 7, none⟩ = some (.slice L2 a2 x2) ∧ w'.cell? ⟨wr.heap.size, 8, none⟩ = some (.slice L3 a3 x3) ∧ w'.cell? ⟨wr.heap.size, 9, none⟩ = some (.int .i64 p.left.cursor) ∧ w'.cell? ⟨wr.heap.size, 10, none⟩ = some (.bool p.right.start) ∧ w'.cell? ⟨wr.heap.size, 11, none⟩ = some (.bool p.right.fin) ∧ w'.cell? ⟨wr.heap.size, 12, none⟩ = some (.slice R1 b1 y1) ∧ w'.cell? ⟨wr.heap.size, 13, none⟩ = some (.slice R2 b2 y2) ∧ w'.cell? ⟨wr.heap.size, 14, none⟩ = some (.slice R3 b3 y3) ∧ w'.cell? ⟨wr.heap.size, 15, none⟩ = some (.int .i64 p.right.cursor)) (by kernel_rfl) (HC.out _ (PrAt.drew HP2.out)) (fun hHeld => ?_)
              refine wpAnyH_take (i := 0) (v := ?_) rfl (by kernel_rfl) (by kernel_rfl) (by kernel_rfl) (fun _ _ _ h => h) (Or.inl ⟨by rfl, ?_⟩) (by assumption) ?_
              rotate_left 1
              · intro w hSw
                (try dsimp only at hSw)
                go_simp
                try with_reducible rfl
              try simp only [Act.put]
              refine wpAnyH_take (i := 1) (v := ?_) rfl (by kernel_rfl) (by kernel_rfl) (by kernel_rfl) (fun _ _ _ h => h) (Or.inl ⟨by rfl, ?_⟩) (by assumption) ?_
              rotate_left 1
              · intro w hSw
                (try dsimp only at hSw)
                go_simp
                try with_reducible rfl
              try simp only [Act.put]
              refine wpAnyH_take (i := 4) (v := ?_) rfl (by kernel_rfl) (by kernel_rfl) (by kernel_rfl) (fun _ _ _ h => h) (Or.inl ⟨by rfl, ?_⟩) (by assumption) ?_
              rotate_left 1
              · intro w hSw
                (try dsimp only at hSw)
                go_simp
                try with_reducible rfl
              try simp only [Act.put]
              refine wpAnyH_take (i := 5) (v := ?_) rfl (by kernel_rfl) (by kernel_rfl) (by kernel_rfl) (fun _ _ _ h => h) (Or.inl ⟨by rfl, ?_⟩) (by assumption) ?_
              rotate_left 1
              · intro w hSw
                (try dsimp only at hSw)
                go_simp
                try with_reducible rfl
              try simp only [Act.put]
              refine wpAnyH_take (i := 6) (v := ?_) rfl (by kernel_rfl) (by kernel_rfl) (by kernel_rfl) (fun _ _ _ h => h) (Or.inl ⟨by rfl, ?_⟩) (by assumption) ?_
              rotate_left 1
              · intro w hSw
                (try dsimp only at hSw)
                go_simp
                try with_reducible rfl
              try simp only [Act.put]
              refine wpAnyH_take (i := 11) (v := ?_) rfl (by kernel_rfl) (by kernel_rfl) (by kernel_rfl) (fun _ _ _ h => h) (Or.inl ⟨by rfl, ?_⟩) (by assumption) ?_
              rotate_left 1
              · intro w hSw
                (try dsimp only at hSw)
                go_simp
                try with_reducible rfl
              try simp only [Act.put]
              refine wpAnyH_take (i := 12) (v := ?_) rfl (by kernel_rfl) (by kernel_rfl) (by kernel_rfl) (fun _ _ _ h => h) (Or.inl ⟨by rfl, ?_⟩) (by assumption) ?_
              rotate_left 1
              · intro w hSw
                (try dsimp only at hSw)
                go_simp
                try with_reducible rfl
              try simp only [Act.put]
              refine wpAnyH_ready (rs := [2, 3]) (by kernel_rfl) (by simp) ?_
              refine AllReadyH.cons rfl (fun K hK => ?_) (AllReadyH.cons rfl (fun K hK => ?_) AllReadyH.nil)
              · go_simp
                go_at_call_of 15 (Value.slice L1 a1 x1)
                refine (HLw2.out _ ?_).mono ?_
                · exact (PrAt.drew HP2.out).2.2
                rintro e w3 ⟨⟨v3, rfl, ho3⟩, hb3⟩
                have HPa := Lib.hid (PrAt.below (PrAt.drew HP2.out) hb3)
                have HO3 := Lib.hid (show OwnT w3 w.heap.size v3 WL from own_mono ho3 (PrAt.drew HP2.out).2.2.size)
                clear ho3
                dsimp only
                refine hK.out _ _ ?_ (fun hHeld => ?_)
                · exact HC.out _ HPa.out
                clear hK K
                refine wpAnyH_ready (rs := [3]) (by kernel_rfl) (by simp) ?_
                refine AllReadyH.cons rfl (fun K hK => ?_) AllReadyH.nil
                go_simp
                refine hK.out _ _ ?_ (fun hHeld => ?_)
                · exact HC.out _ (PrAt.alloc HPa.out _)
                clear hK K
                have HPr := Lib.hid (PrAt.alloc HPa.out (.cells #[.string ⟨#[62]⟩, .string ⟨#[60]⟩, .string ⟨#[60, 62]⟩] 9))
                have HOr := Lib.hid (World.ownsRow.alloc HO3.out (.cells #[.string ⟨#[62]⟩, .string ⟨#[60]⟩, .string ⟨#[60, 62]⟩] 9))
                have hN1 := Rd.new (w3.alloc (.cells #[.string ⟨#[62]⟩, .string ⟨#[60]⟩, .string ⟨#[60, 62]⟩] 9)) 9 1 1 [.string ⟨#[60]⟩] rfl
                rw [show (w3.alloc (.cells #[.string ⟨#[62]⟩, .string ⟨#[60]⟩, .string ⟨#[60, 62]⟩] 9)).heap.size = w3.heap.size + 1 by simp] at hN1
                have HN1 := Lib.hid hN1
                clear hN1 hb3
                refine wpAnyH_ready (rs := [7]) (by kernel_rfl) (by simp) ?_
                refine AllReadyH.cons rfl (fun K hK => ?_) AllReadyH.nil
                go_simp
                refine hK.out _ _ ?_ (fun hHeld => ?_)
                · exact HC.out _ HPr.out
                clear hK K
                refine wpAnyH_ready (rs := [8]) (by kernel_rfl) (by simp) ?_
                refine AllReadyH.cons rfl (fun K hK => ?_) AllReadyH.nil
                go_simp
                refine hK.out _ _ ?_ (fun hHeld => ?_)
                · exact HC.out _ HPr.out
                clear hK K
                refine wpAnyH_ready (rs := [9]) (by kernel_rfl) (by simp) ?_
                refine AllReadyH.cons rfl (fun K hK => ?_) AllReadyH.nil
                go_simp
                refine hK.out _ _ ?_ (fun hHeld => ?_)
                · exact HC.out _ (PrAt.alloc HPr.out _)
                clear hK K
                refine wpAnyH_ready (rs := [10]) (by kernel_rfl) (by simp) ?_
                refine AllReadyH.cons rfl (fun K hK => ?_) AllReadyH.nil
                refine step_append_rd _ rfl (.tmp 35) (.tmp 42) 47 rfl w.heap.size 9 i0 _ 1 16 Tryd.underlying47 hi hz0 hz1 hz2 rfl (by decide) _ _ _ rfl (World.ownsRow.alloc HOr.out (.cells #[.string ⟨#[60]⟩] 9)) _ _ 1 1 [.string ⟨#[60]⟩] rfl HN1.out (strVals_one [[60]]) (by simp only [maxLen]; omega) (by omega) (PrAt.alloc HPr.out (.cells #[.string ⟨#[60]⟩] 9)).2.2.size ?_
                intro v4 w4 happ
                have HPb := Lib.hid (PrAt.app (PrAt.alloc HPr.out (.cells #[.string ⟨#[60]⟩] 9)) (World.ownsRow.alloc HOr.out (.cells #[.string ⟨#[60]⟩] 9)) (Nat.le_refl _) happ)
                have HO4 := Lib.hid (OwnT.push (x := [60]) rfl WL happ)
                clear happ
                refine hK.out _ _ ?_ (fun hHeld => ?_)
                · exact HC.out _ HPb.out
                clear hK K
                refine wpAnyH_ready (rs := [13]) (by kernel_rfl) (by simp) ?_
                refine AllReadyH.cons rfl (fun K hK => ?_) AllReadyH.nil
                go_simp
                go_at_call_of 15 (Value.slice R1 b1 y1)
                refine (HRw2.out _ ?_).mono ?_
                · exact HPb.out.2.2
                rintro e w5 ⟨⟨v5, rfl, ho5⟩, hb5⟩
                obtain ⟨A5, c5, rfl, _⟩ := own_form ho5
                have HPc := Lib.hid (PrAt.below HPb.out hb5)
                have HO5 := Lib.hid (own_below HO4.out hb5)
                have HR5 := Lib.hid (OwnT.rd ho5 rfl)
                clear ho5 hb5
                dsimp only
                refine hK.out _ _ ?_ (fun hHeld => ?_)
                · exact HC.out _ HPc.out
                clear hK K
                refine wpAnyH_ready (rs := [14]) (by kernel_rfl) (by simp) ?_
                refine AllReadyH.cons rfl (fun K hK => ?_) AllReadyH.nil
                refine step_append_rd _ rfl (.tmp 43) (.tmp 46) 47 rfl w.heap.size 9 i0 _ 1 16 Tryd.underlying47 hi hz0 hz1 hz2 rfl (by decide) _ _ _ rfl HO5.out _ _ _ _ (strVals WR) rfl HR5.out (strVals_one WR) (by simp only [maxLen, List.length_append, List.length_cons, List.length_nil]; omega) (by simp only [List.length_append, List.length_cons, List.length_nil]; omega) HPc.out.2.2.size ?_
                intro v6 w6 happ
                have HPd := Lib.hid (PrAt.app HPc.out HO5.out (Nat.le_refl _) happ)
                have HO6 := Lib.hid (OwnT.of happ (by simp; omega) (strVals_append _ _))
                clear happ
                refine hK.out _ _ ?_ (fun hHeld => ?_)
                · exact HC.out _ HPd.out
                clear hK K
                refine wpAnyH_take (i := 15) (v := ?_) rfl (by kernel_rfl) (by kernel_rfl) (by kernel_rfl) (fun _ _ _ h => h) (Or.inl ⟨by rfl, ?_⟩) (by assumption) ?_
                rotate_left 1
                · intro w hSw
                  (try dsimp only at hSw)
                  go_simp
                  try with_reducible rfl
                try simp only [Act.put]
                refine wpAnyH_done (by kernel_rfl) ?_ _
                go_simp
                go_wp2_with fail
                go_meet
                have := pw_own HPd.out HO6.out
                rw [HW.out]
                simpa using this
              · go_simp
                refine hK.out _ _ ?_ (fun hHeld => ?_)
                · exact HC.out _ (PrAt.alloc (PrAt.drew HP2.out) (.cells #[.string ⟨#[62]⟩, .string ⟨#[60]⟩, .string ⟨#[60, 62]⟩] 9))
                clear hK K
                refine wpAnyH_ready (rs := [2, 7]) (by kernel_rfl) (by simp) ?_
                refine AllReadyH.cons rfl (fun K hK => ?_) (AllReadyH.cons rfl (fun K hK => ?_) AllReadyH.nil)
                · go_simp
                  go_at_call_of 15 (Value.slice L1 a1 x1)
                  refine (HLw2.out _ ?_).mono ?_
                  · exact (PrAt.alloc (PrAt.drew HP2.out) (.cells #[.string ⟨#[62]⟩, .string ⟨#[60]⟩, .string ⟨#[60, 62]⟩] 9)).2.2
                  rintro e w3 ⟨⟨v3, rfl, ho3⟩, hb3⟩
                  have HPa := Lib.hid (PrAt.below (PrAt.alloc (PrAt.drew HP2.out) (.cells #[.string ⟨#[62]⟩, .string ⟨#[60]⟩, .string ⟨#[60, 62]⟩] 9)) hb3)
                  have HO3 := Lib.hid (show OwnT w3 w.heap.size v3 WL from own_mono ho3 (PrAt.alloc (PrAt.drew HP2.out) (.cells #[.string ⟨#[62]⟩, .string ⟨#[60]⟩, .string ⟨#[60, 62]⟩] 9)).2.2.size)
                  clear ho3
                  dsimp only
                  refine hK.out _ _ ?_ (fun hHeld => ?_)
                  · exact HC.out _ HPa.out
                  clear hK K
                  have HPr := HPa
                  have HOr := HO3
                  have HN1 := Lib.hid (Rd.new w3 9 1 1 [.string ⟨#[60]⟩] rfl)
                  have hrow : w3.cell? ⟨w2.heap.size, 1, none⟩ = some (.string ⟨#[60]⟩) := (hb3.cell (by simp)).trans ((Blk.new w2.drew 9 #[.string ⟨#[62]⟩, .string ⟨#[60]⟩, .string ⟨#[60, 62]⟩]).cell 1)
                  clear hb3
                  refine wpAnyH_ready (rs := [7]) (by kernel_rfl) (by simp) ?_
                  refine AllReadyH.cons rfl (fun K hK => ?_) AllReadyH.nil
                  go_simp
                  refine hK.out _ _ ?_ (fun hHeld => ?_)
                  · exact HC.out _ HPr.out
                  clear hK K
                  refine wpAnyH_ready (rs := [8]) (by kernel_rfl) (by simp) ?_
                  refine AllReadyH.cons rfl (fun K hK => ?_) AllReadyH.nil
                  go_simp
                  refine hK.out _ _ ?_ (fun hHeld => ?_)
                  · exact HC.out _ HPr.out
                  clear hK K
                  refine wpAnyH_ready (rs := [9]) (by kernel_rfl) (by simp) ?_
                  refine AllReadyH.cons rfl (fun K hK => ?_) AllReadyH.nil
                  go_simp
                  refine hK.out _ _ ?_ (fun hHeld => ?_)
                  · exact HC.out _ (PrAt.alloc HPr.out _)
                  clear hK K
                  refine wpAnyH_ready (rs := [10]) (by kernel_rfl) (by simp) ?_
                  refine AllReadyH.cons rfl (fun K hK => ?_) AllReadyH.nil
                  refine step_append_rd _ rfl (.tmp 35) (.tmp 42) 47 rfl w.heap.size 9 i0 _ 1 16 Tryd.underlying47 hi hz0 hz1 hz2 rfl (by decide) _ _ _ rfl (World.ownsRow.alloc HOr.out (.cells #[.string ⟨#[60]⟩] 9)) _ _ 1 1 [.string ⟨#[60]⟩] rfl HN1.out (strVals_one [[60]]) (by simp only [maxLen]; omega) (by omega) (PrAt.alloc HPr.out (.cells #[.string ⟨#[60]⟩] 9)).2.2.size ?_
                  intro v4 w4 happ
                  have HPb := Lib.hid (PrAt.app (PrAt.alloc HPr.out (.cells #[.string ⟨#[60]⟩] 9)) (World.ownsRow.alloc HOr.out (.cells #[.string ⟨#[60]⟩] 9)) (Nat.le_refl _) happ)
                  have HO4 := Lib.hid (OwnT.push (x := [60]) rfl WL happ)
                  clear happ
                  refine hK.out _ _ ?_ (fun hHeld => ?_)
                  · exact HC.out _ HPb.out
                  clear hK K
                  refine wpAnyH_ready (rs := [13]) (by kernel_rfl) (by simp) ?_
                  refine AllReadyH.cons rfl (fun K hK => ?_) AllReadyH.nil
                  go_simp
                  go_at_call_of 15 (Value.slice R1 b1 y1)
                  refine (HRw2.out _ ?_).mono ?_
                  · exact HPb.out.2.2
                  rintro e w5 ⟨⟨v5, rfl, ho5⟩, hb5⟩
                  obtain ⟨A5, c5, rfl, _⟩ := own_form ho5
                  have HPc := Lib.hid (PrAt.below HPb.out hb5)
                  have HO5 := Lib.hid (own_below HO4.out hb5)
                  have HR5 := Lib.hid (OwnT.rd ho5 rfl)
                  clear ho5 hb5
                  dsimp only
                  refine hK.out _ _ ?_ (fun hHeld => ?_)
                  · exact HC.out _ HPc.out
                  clear hK K
                  refine wpAnyH_ready (rs := [14]) (by kernel_rfl) (by simp) ?_
                  refine AllReadyH.cons rfl (fun K hK => ?_) AllReadyH.nil
                  refine step_append_rd _ rfl (.tmp 43) (.tmp 46) 47 rfl w.heap.size 9 i0 _ 1 16 Tryd.underlying47 hi hz0 hz1 hz2 rfl (by decide) _ _ _ rfl HO5.out _ _ _ _ (strVals WR) rfl HR5.out (strVals_one WR) (by simp only [maxLen, List.length_append, List.length_cons, List.length_nil]; omega) (by simp only [List.length_append, List.length_cons, List.length_nil]; omega) HPc.out.2.2.size ?_
                  intro v6 w6 happ
                  have HPd := Lib.hid (PrAt.app HPc.out HO5.out (Nat.le_refl _) happ)
                  have HO6 := Lib.hid (OwnT.of happ (by simp; omega) (strVals_append _ _))
                  clear happ
                  refine hK.out _ _ ?_ (fun hHeld => ?_)
                  · exact HC.out _ HPd.out
                  clear hK K
                  refine wpAnyH_take (i := 15) (v := ?_) rfl (by kernel_rfl) (by kernel_rfl) (by kernel_rfl) (fun _ _ _ h => h) (Or.inl ⟨by rfl, ?_⟩) (by assumption) ?_
                  rotate_left 1
                  · intro w hSw
                    (try dsimp only at hSw)
                    go_simp
                    try with_reducible rfl
                  try simp only [Act.put]
                  refine wpAnyH_done (by kernel_rfl) ?_ _
                  go_simp
                  go_wp2_with fail
                  go_meet
                  have := pw_own HPd.out HO6.out
                  rw [HW.out]
                  simpa using this
                · go_simp
                  refine hK.out _ _ ?_ (fun hHeld => ?_)
                  · exact HC.out _ (PrAt.alloc (PrAt.drew HP2.out) (.cells #[.string ⟨#[62]⟩, .string ⟨#[60]⟩, .string ⟨#[60, 62]⟩] 9))
                  clear hK K
                  refine wpAnyH_ready (rs := [2, 8]) (by kernel_rfl) (by simp) ?_
                  refine AllReadyH.cons rfl (fun K hK => ?_) (AllReadyH.cons rfl (fun K hK => ?_) AllReadyH.nil)
                  · go_simp
                    go_at_call_of 15 (Value.slice L1 a1 x1)
                    refine (HLw2.out _ ?_).mono ?_
                    · exact (PrAt.alloc (PrAt.drew HP2.out) (.cells #[.string ⟨#[62]⟩, .string ⟨#[60]⟩, .string ⟨#[60, 62]⟩] 9)).2.2
                    rintro e w3 ⟨⟨v3, rfl, ho3⟩, hb3⟩
                    have HPa := Lib.hid (PrAt.below (PrAt.alloc (PrAt.drew HP2.out) (.cells #[.string ⟨#[62]⟩, .string ⟨#[60]⟩, .string ⟨#[60, 62]⟩] 9)) hb3)
                    have HO3 := Lib.hid (show OwnT w3 w.heap.size v3 WL from own_mono ho3 (PrAt.alloc (PrAt.drew HP2.out) (.cells #[.string ⟨#[62]⟩, .string ⟨#[60]⟩, .string ⟨#[60, 62]⟩] 9)).2.2.size)
                    clear ho3
                    dsimp only
                    refine hK.out _ _ ?_ (fun hHeld => ?_)
                    · exact HC.out _ HPa.out
                    clear hK K
                    have HPr := HPa
                    have HOr := HO3
                    have HN1 := Lib.hid (Rd.new w3 9 1 1 [.string ⟨#[60]⟩] rfl)
                    have hrow : w3.cell? ⟨w2.heap.size, 1, none⟩ = some (.string ⟨#[60]⟩) := (hb3.cell (by simp)).trans ((Blk.new w2.drew 9 #[.string ⟨#[62]⟩, .string ⟨#[60]⟩, .string ⟨#[60, 62]⟩]).cell 1)
                    clear hb3
                    refine wpAnyH_ready (rs := [8]) (by kernel_rfl) (by simp) ?_
                    refine AllReadyH.cons rfl (fun K hK => ?_) AllReadyH.nil
                    go_simp
                    refine hK.out _ _ ?_ (fun hHeld => ?_)
                    · exact HC.out _ HPr.out
                    clear hK K
                    refine wpAnyH_ready (rs := [9]) (by kernel_rfl) (by simp) ?_
                    refine AllReadyH.cons rfl (fun K hK => ?_) AllReadyH.nil
                    go_simp
                    refine hK.out _ _ ?_ (fun hHeld => ?_)
                    · exact HC.out _ (PrAt.alloc HPr.out _)
                    clear hK K
                    refine wpAnyH_ready (rs := [10]) (by kernel_rfl) (by simp) ?_
                    refine AllReadyH.cons rfl (fun K hK => ?_) AllReadyH.nil
                    refine step_append_rd _ rfl (.tmp 35) (.tmp 42) 47 rfl w.heap.size 9 i0 _ 1 16 Tryd.underlying47 hi hz0 hz1 hz2 rfl (by decide) _ _ _ rfl (World.ownsRow.alloc HOr.out (.cells #[.string ⟨#[60]⟩] 9)) _ _ 1 1 [.string ⟨#[60]⟩] rfl HN1.out (strVals_one [[60]]) (by simp only [maxLen]; omega) (by omega) (PrAt.alloc HPr.out (.cells #[.string ⟨#[60]⟩] 9)).2.2.size ?_
                    intro v4 w4 happ
                    have HPb := Lib.hid (PrAt.app (PrAt.alloc HPr.out (.cells #[.string ⟨#[60]⟩] 9)) (World.ownsRow.alloc HOr.out (.cells #[.string ⟨#[60]⟩] 9)) (Nat.le_refl _) happ)
                    have HO4 := Lib.hid (OwnT.push (x := [60]) rfl WL happ)
                    clear happ
                    refine hK.out _ _ ?_ (fun hHeld => ?_)
                    · exact HC.out _ HPb.out
                    clear hK K
                    refine wpAnyH_ready (rs := [13]) (by kernel_rfl) (by simp) ?_
                    refine AllReadyH.cons rfl (fun K hK => ?_) AllReadyH.nil
                    go_simp
                    go_at_call_of 15 (Value.slice R1 b1 y1)
                    refine (HRw2.out _ ?_).mono ?_
                    · exact HPb.out.2.2
                    rintro e w5 ⟨⟨v5, rfl, ho5⟩, hb5⟩
                    obtain ⟨A5, c5, rfl, _⟩ := own_form ho5
                    have HPc := Lib.hid (PrAt.below HPb.out hb5)
                    have HO5 := Lib.hid (own_below HO4.out hb5)
                    have HR5 := Lib.hid (OwnT.rd ho5 rfl)
                    clear ho5 hb5
                    dsimp only
                    refine hK.out _ _ ?_ (fun hHeld => ?_)
                    · exact HC.out _ HPc.out
                    clear hK K
                    refine wpAnyH_ready (rs := [14]) (by kernel_rfl) (by simp) ?_
                    refine AllReadyH.cons rfl (fun K hK => ?_) AllReadyH.nil
                    refine step_append_rd _ rfl (.tmp 43) (.tmp 46) 47 rfl w.heap.size 9 i0 _ 1 16 Tryd.underlying47 hi hz0 hz1 hz2 rfl (by decide) _ _ _ rfl HO5.out _ _ _ _ (strVals WR) rfl HR5.out (strVals_one WR) (by simp only [maxLen, List.length_append, List.length_cons, List.length_nil]; omega) (by simp only [List.length_append, List.length_cons, List.length_nil]; omega) HPc.out.2.2.size ?_
                    intro v6 w6 happ
                    have HPd := Lib.hid (PrAt.app HPc.out HO5.out (Nat.le_refl _) happ)
                    have HO6 := Lib.hid (OwnT.of happ (by simp; omega) (strVals_append _ _))
                    clear happ
                    refine hK.out _ _ ?_ (fun hHeld => ?_)
                    · exact HC.out _ HPd.out
                    clear hK K
                    refine wpAnyH_take (i := 15) (v := ?_) rfl (by kernel_rfl) (by kernel_rfl) (by kernel_rfl) (fun _ _ _ h => h) (Or.inl ⟨by rfl, ?_⟩) (by assumption) ?_
                    rotate_left 1
                    · intro w hSw
                      (try dsimp only at hSw)
                      go_simp
                      try with_reducible rfl
                    try simp only [Act.put]
                    refine wpAnyH_done (by kernel_rfl) ?_ _
                    go_simp
                    go_wp2_with fail
                    go_meet
                    have := pw_own HPd.out HO6.out
                    rw [HW.out]
                    simpa using this
                  · go_simp
                    refine hK.out _ _ ?_ (fun hHeld => ?_)
                    · exact HC.out _ (PrAt.alloc (PrAt.drew HP2.out) (.cells #[.string ⟨#[62]⟩, .string ⟨#[60]⟩, .string ⟨#[60, 62]⟩] 9))
                    clear hK K
                    refine wpAnyH_ready (rs := [2, 9]) (by kernel_rfl) (by simp) ?_
                    refine AllReadyH.cons rfl (fun K hK => ?_) (AllReadyH.cons rfl (fun K hK => ?_) AllReadyH.nil)
                    · go_simp
                      go_at_call_of 15 (Value.slice L1 a1 x1)
                      refine (HLw2.out _ ?_).mono ?_
                      · exact (PrAt.alloc (PrAt.drew HP2.out) (.cells #[.string ⟨#[62]⟩, .string ⟨#[60]⟩, .string ⟨#[60, 62]⟩] 9)).2.2
                      rintro e w3 ⟨⟨v3, rfl, ho3⟩, hb3⟩
                      have HPa := Lib.hid (PrAt.below (PrAt.alloc (PrAt.drew HP2.out) (.cells #[.string ⟨#[62]⟩, .string ⟨#[60]⟩, .string ⟨#[60, 62]⟩] 9)) hb3)
                      have HO3 := Lib.hid (show OwnT w3 w.heap.size v3 WL from own_mono ho3 (PrAt.alloc (PrAt.drew HP2.out) (.cells #[.string ⟨#[62]⟩, .string ⟨#[60]⟩, .string ⟨#[60, 62]⟩] 9)).2.2.size)
                      clear ho3
                      dsimp only
                      refine hK.out _ _ ?_ (fun hHeld => ?_)
                      · exact HC.out _ HPa.out
                      clear hK K
                      have HPr := HPa
                      have HOr := HO3
                      have HN1 := Lib.hid (Rd.new w3 9 1 1 [.string ⟨#[60]⟩] rfl)
                      clear hb3
                      refine wpAnyH_ready (rs := [9]) (by kernel_rfl) (by simp) ?_
                      refine AllReadyH.cons rfl (fun K hK => ?_) AllReadyH.nil
                      go_simp
                      refine hK.out _ _ ?_ (fun hHeld => ?_)
                      · exact HC.out _ (PrAt.alloc HPr.out _)
                      clear hK K
                      refine wpAnyH_ready (rs := [10]) (by kernel_rfl) (by simp) ?_
                      refine AllReadyH.cons rfl (fun K hK => ?_) AllReadyH.nil
                      refine step_append_rd _ rfl (.tmp 35) (.tmp 42) 47 rfl w.heap.size 9 i0 _ 1 16 Tryd.underlying47 hi hz0 hz1 hz2 rfl (by decide) _ _ _ rfl (World.ownsRow.alloc HOr.out (.cells #[.string ⟨#[60]⟩] 9)) _ _ 1 1 [.string ⟨#[60]⟩] rfl HN1.out (strVals_one [[60]]) (by simp only [maxLen]; omega) (by omega) (PrAt.alloc HPr.out (.cells #[.string ⟨#[60]⟩] 9)).2.2.size ?_
                      intro v4 w4 happ
                      have HPb := Lib.hid (PrAt.app (PrAt.alloc HPr.out (.cells #[.string ⟨#[60]⟩] 9)) (World.ownsRow.alloc HOr.out (.cells #[.string ⟨#[60]⟩] 9)) (Nat.le_refl _) happ)
                      have HO4 := Lib.hid (OwnT.push (x := [60]) rfl WL happ)
                      clear happ
                      refine hK.out _ _ ?_ (fun hHeld => ?_)
                      · exact HC.out _ HPb.out
                      clear hK K
                      refine wpAnyH_ready (rs := [13]) (by kernel_rfl) (by simp) ?_
                      refine AllReadyH.cons rfl (fun K hK => ?_) AllReadyH.nil
                      go_simp
                      go_at_call_of 15 (Value.slice R1 b1 y1)
                      refine (HRw2.out _ ?_).mono ?_
                      · exact HPb.out.2.2
                      rintro e w5 ⟨⟨v5, rfl, ho5⟩, hb5⟩
                      obtain ⟨A5, c5, rfl, _⟩ := own_form ho5
                      have HPc := Lib.hid (PrAt.below HPb.out hb5)
                      have HO5 := Lib.hid (own_below HO4.out hb5)
                      have HR5 := Lib.hid (OwnT.rd ho5 rfl)
                      clear ho5 hb5
                      dsimp only
                      refine hK.out _ _ ?_ (fun hHeld => ?_)
                      · exact HC.out _ HPc.out
                      clear hK K
                      refine wpAnyH_ready (rs := [14]) (by kernel_rfl) (by simp) ?_
                      refine AllReadyH.cons rfl (fun K hK => ?_) AllReadyH.nil
                      refine step_append_rd _ rfl (.tmp 43) (.tmp 46) 47 rfl w.heap.size 9 i0 _ 1 16 Tryd.underlying47 hi hz0 hz1 hz2 rfl (by decide) _ _ _ rfl HO5.out _ _ _ _ (strVals WR) rfl HR5.out (strVals_one WR) (by simp only [maxLen, List.length_append, List.length_cons, List.length_nil]; omega) (by simp only [List.length_append, List.length_cons, List.length_nil]; omega) HPc.out.2.2.size ?_
                      intro v6 w6 happ
                      have HPd := Lib.hid (PrAt.app HPc.out HO5.out (Nat.le_refl _) happ)
                      have HO6 := Lib.hid (OwnT.of happ (by simp; omega) (strVals_append _ _))
                      clear happ
                      refine hK.out _ _ ?_ (fun hHeld => ?_)
                      · exact HC.out _ HPd.out
                      clear hK K
                      refine wpAnyH_take (i := 15) (v := ?_) rfl (by kernel_rfl) (by kernel_rfl) (by kernel_rfl) (fun _ _ _ h => h) (Or.inl ⟨by rfl, ?_⟩) (by assumption) ?_
                      rotate_left 1
                      · intro w hSw
                        (try dsimp only at hSw)
                        go_simp
                        try with_reducible rfl
                      try simp only [Act.put]
                      refine wpAnyH_done (by kernel_rfl) ?_ _
                      go_simp
                      go_wp2_with fail
                      go_meet
                      have := pw_own HPd.out HO6.out
                      rw [HW.out]
                      simpa using this
                    · go_simp
                      refine hK.out _ _ ?_ (fun hHeld => ?_)
                      · exact HC.out _ (PrAt.alloc (PrAt.alloc (PrAt.drew HP2.out) (.cells #[.string ⟨#[62]⟩, .string ⟨#[60]⟩, .string ⟨#[60, 62]⟩] 9)) (.cells #[.string ⟨#[60]⟩] 9))
                      clear hK K
                      refine wpAnyH_ready (rs := [2]) (by kernel_rfl) (by simp) ?_
                      refine AllReadyH.cons rfl (fun K hK => ?_) AllReadyH.nil
                      go_simp
                      go_at_call_of 15 (Value.slice L1 a1 x1)
                      refine (HLw2.out _ ?_).mono ?_
                      · exact (PrAt.alloc (PrAt.alloc (PrAt.drew HP2.out) (.cells #[.string ⟨#[62]⟩, .string ⟨#[60]⟩, .string ⟨#[60, 62]⟩] 9)) (.cells #[.string ⟨#[60]⟩] 9)).2.2
                      rintro e w3 ⟨⟨v3, rfl, ho3⟩, hb3⟩
                      have HPa := Lib.hid (PrAt.below (PrAt.alloc (PrAt.alloc (PrAt.drew HP2.out) (.cells #[.string ⟨#[62]⟩, .string ⟨#[60]⟩, .string ⟨#[60, 62]⟩] 9)) (.cells #[.string ⟨#[60]⟩] 9)) hb3)
                      have HO3 := Lib.hid (show OwnT w3 w.heap.size v3 WL from own_mono ho3 (PrAt.alloc (PrAt.alloc (PrAt.drew HP2.out) (.cells #[.string ⟨#[62]⟩, .string ⟨#[60]⟩, .string ⟨#[60, 62]⟩] 9)) (.cells #[.string ⟨#[60]⟩] 9)).2.2.size)
                      clear ho3
                      dsimp only
                      refine hK.out _ _ ?_ (fun hHeld => ?_)
                      · exact HC.out _ HPa.out
                      clear hK K
                      have hN1 := Rd.below (Rd.more (Rd.new (w2.drew.alloc (.cells #[.string ⟨#[62]⟩, .string ⟨#[60]⟩, .string ⟨#[60, 62]⟩] 9)) 9 1 1 [.string ⟨#[60]⟩] rfl) (show _ ≤ ((w2.drew.alloc (.cells #[.string ⟨#[62]⟩, .string ⟨#[60]⟩, .string ⟨#[60, 62]⟩] 9)).alloc (.cells #[.string ⟨#[60]⟩] 9)).heap.size by simp)) (show Below ((w2.drew.alloc (.cells #[.string ⟨#[62]⟩, .string ⟨#[60]⟩, .string ⟨#[60, 62]⟩] 9)).alloc (.cells #[.string ⟨#[60]⟩] 9)).heap.size ((w2.drew.alloc (.cells #[.string ⟨#[62]⟩, .string ⟨#[60]⟩, .string ⟨#[60, 62]⟩] 9)).alloc (.cells #[.string ⟨#[60]⟩] 9)) w3 from hb3)
                      rw [show (w2.drew.alloc (.cells #[.string ⟨#[62]⟩, .string ⟨#[60]⟩, .string ⟨#[60, 62]⟩] 9)).heap.size = w2.heap.size + 1 by simp] at hN1
                      have HN1 := Lib.hid hN1
                      clear hN1 hb3
                      refine wpAnyH_ready (rs := [10]) (by kernel_rfl) (by simp) ?_
                      refine AllReadyH.cons rfl (fun K hK => ?_) AllReadyH.nil
                      refine step_append_rd _ rfl (.tmp 35) (.tmp 42) 47 rfl w.heap.size 9 i0 _ 1 16 Tryd.underlying47 hi hz0 hz1 hz2 rfl (by decide) _ _ _ rfl HO3.out _ _ 1 1 [.string ⟨#[60]⟩] rfl HN1.out (strVals_one [[60]]) (by simp only [maxLen]; omega) (by omega) HPa.out.2.2.size ?_
                      intro v4 w4 happ
                      have HPb := Lib.hid (PrAt.app HPa.out HO3.out (Nat.le_refl _) happ)
                      have HO4 := Lib.hid (OwnT.push (x := [60]) rfl WL happ)
                      clear happ
                      refine hK.out _ _ ?_ (fun hHeld => ?_)
                      · exact HC.out _ HPb.out
                      clear hK K
                      refine wpAnyH_ready (rs := [13]) (by kernel_rfl) (by simp) ?_
                      refine AllReadyH.cons rfl (fun K hK => ?_) AllReadyH.nil
                      go_simp
                      go_at_call_of 15 (Value.slice R1 b1 y1)
                      refine (HRw2.out _ ?_).mono ?_
                      · exact HPb.out.2.2
                      rintro e w5 ⟨⟨v5, rfl, ho5⟩, hb5⟩
                      obtain ⟨A5, c5, rfl, _⟩ := own_form ho5
                      have HPc := Lib.hid (PrAt.below HPb.out hb5)
                      have HO5 := Lib.hid (own_below HO4.out hb5)
                      have HR5 := Lib.hid (OwnT.rd ho5 rfl)
                      clear ho5 hb5
                      dsimp only
                      refine hK.out _ _ ?_ (fun hHeld => ?_)
                      · exact HC.out _ HPc.out
                      clear hK K
                      refine wpAnyH_ready (rs := [14]) (by kernel_rfl) (by simp) ?_
                      refine AllReadyH.cons rfl (fun K hK => ?_) AllReadyH.nil
                      refine step_append_rd _ rfl (.tmp 43) (.tmp 46) 47 rfl w.heap.size 9 i0 _ 1 16 Tryd.underlying47 hi hz0 hz1 hz2 rfl (by decide) _ _ _ rfl HO5.out _ _ _ _ (strVals WR) rfl HR5.out (strVals_one WR) (by simp only [maxLen, List.length_append, List.length_cons, List.length_nil]; omega) (by simp only [List.length_append, List.length_cons, List.length_nil]; omega) HPc.out.2.2.size ?_
                      intro v6 w6 happ
                      have HPd := Lib.hid (PrAt.app HPc.out HO5.out (Nat.le_refl _) happ)
                      have HO6 := Lib.hid (OwnT.of happ (by simp; omega) (strVals_append _ _))
                      clear happ
                      refine hK.out _ _ ?_ (fun hHeld => ?_)
                      · exact HC.out _ HPd.out
                      clear hK K
                      refine wpAnyH_take (i := 15) (v := ?_) rfl (by kernel_rfl) (by kernel_rfl) (by kernel_rfl) (fun _ _ _ h => h) (Or.inl ⟨by rfl, ?_⟩) (by assumption) ?_
                      rotate_left 1
                      · intro w hSw
                        (try dsimp only at hSw)
                        go_simp
                        try with_reducible rfl
                      try simp only [Act.put]
                      refine wpAnyH_done (by kernel_rfl) ?_ _
                      go_simp
                      go_wp2_with fail
                      go_meet
                      have := pw_own HPd.out HO6.out
                      rw [HW.out]
                      simpa using this
            · have HW := Lib.hid (show partW p = WL ++ [60, 62] :: WR by rw [HPWW.out, hd]; rfl)
              have HC := Lib.hid (fun (wx : World) (h : PrAt w w.heap.size wr.heap.size #[.int .i64 p.kind, .string p.name, .slice A' n' c', .int .i64 p.dir, .bool p.left.start, .bool p.left.fin, .slice L1 a1 x1, .slice L2 a2 x2, .slice L3 a3 x3, .int .i64 p.left.cursor, .bool p.right.start, .bool p.right.fin, .slice R1 b1 y1, .slice R2 b2 y2, .slice R3 b3 y3, .int .i64 p.right.cursor] wx) => show (fun w' => w'.cell? ⟨wr.heap.size, 3, none⟩ = some (.int .i64 3) ∧ w'.cell? ⟨wr.heap.size, 4, none⟩ = some (.bool p.left.start) ∧ w'.cell? ⟨wr.heap.size, 5, none⟩ = some (.bool p.left.fin) ∧ w'.cell? ⟨wr.heap.size, 6, none⟩ = some (.slice L1 a1 x1) ∧ w'.cell? ⟨wr.heap.size, 7, none⟩ = some (.slice L2 a2 x2) ∧ w'.cell? ⟨wr.heap.size, 8, none⟩ = some (.slice L3 a3 x3) ∧ w'.cell? ⟨wr.heap.size, 9, none⟩ = some (.int .i64 p.left.cursor) ∧ w'.cell? ⟨wr.heap.size, 10, none⟩ = some (.bool p.right.start) ∧ w'.cell? ⟨wr.heap.size, 11, none⟩ = some (.bool p.right.fin) ∧ w'.cell? ⟨wr.heap.size, 12, none⟩ = some (.slice R1 b1 y1) ∧ w'.cell? ⟨wr.heap.size, 13, none⟩ = some (.slice R2 b2 y2) ∧ w'.cell? ⟨wr.heap.size, 14, none⟩ = some (.slice R3 b3 y3) ∧ w'.cell? ⟨wr.heap.size, 15, none⟩ = some (.int .i64 p.right.cursor)) wx from ⟨(h.2.1.cell 3).trans (by rw [← hd]; rfl), h.2.1.cell 4, h.2.1.cell 5, h.2.1.cell 6, h.2.1.cell 7, h.2.1.cell 8, h.2.1.cell 9, h.2.1.cell 10, h.2.1.cell 11, h.2.1.cell 12, h.2.1.cell 13, h.2.1.cell 14, h.2.1.cell 15⟩)
              have hwr : IntKind.i64.wrap 2 = 2 := by decide
              clear hd
              go_upto_region 11 with fail
              refine wp_region_held_drew (S := fun w' => w'.cell? ⟨wr.heap.size, 3, none⟩ = some (.int .i64 3) ∧ w'.cell? ⟨wr.heap.size, 4, none⟩ = some (.bool p.left.start) ∧ w'.cell? ⟨wr.heap.size, 5, none⟩ = some (.bool p.left.fin) ∧ w'.cell? ⟨wr.heap.size, 6, none⟩ = some (.slice L1 a1 x1) ∧ w'.cell? ⟨wr.heap.size, 7, none⟩ = some (.slice L2 a2 x2) ∧ w'.cell? ⟨wr.heap.size, 8, none⟩ = some (.slice L3 a3 x3) ∧ w'.cell? ⟨wr.heap.size, 9, none⟩ = some (.int .i64 p.left.cursor) ∧ w'.cell? ⟨wr.heap.size, 10, none⟩ = some (.bool p.right.start) ∧ w'.cell? ⟨wr.heap.size, 11, none⟩ = some (.bool p.right.fin) ∧ w'.cell? ⟨wr.heap.size, 12, none⟩ = some (.slice R1 b1 y1) ∧ w'.cell? ⟨wr.heap.size, 13, none⟩ = some (.slice R2 b2 y2) ∧ w'.cell? ⟨wr.heap.size, 14, none⟩ = some (.slice R3 b3 y3) ∧ w'.cell? ⟨wr.heap.size, 15, none⟩ = some (.int .i64 p.right.cursor)) (by kernel_rfl) (HC.out _ (PrAt.drew HP2.out)) (fun hHeld => ?_)
              refine wpAnyH_take (i := 0) (v := ?_) rfl (by kernel_rfl) (by kernel_rfl) (by kernel_rfl) (fun _ _ _ h => h) (Or.inl ⟨by rfl, ?_⟩) (by assumption) ?_
              rotate_left 1
              · intro w hSw
                (try dsimp only at hSw)
                go_simp
                try with_reducible rfl
              try simp only [Act.put]
              refine wpAnyH_take (i := 1) (v := ?_) rfl (by kernel_rfl) (by kernel_rfl) (by kernel_rfl) (fun _ _ _ h => h) (Or.inl ⟨by rfl, ?_⟩) (by assumption) ?_
              rotate_left 1
              · intro w hSw
                (try dsimp only at hSw)
                go_simp
                try with_reducible rfl
              try simp only [Act.put]
              refine wpAnyH_take (i := 4) (v := ?_) rfl (by kernel_rfl) (by kernel_rfl) (by kernel_rfl) (fun _ _ _ h => h) (Or.inl ⟨by rfl, ?_⟩) (by assumption) ?_
              rotate_left 1
              · intro w hSw
                (try dsimp only at hSw)
                go_simp
                try with_reducible rfl
              try simp only [Act.put]
              refine wpAnyH_take (i := 5) (v := ?_) rfl (by kernel_rfl) (by kernel_rfl) (by kernel_rfl) (fun _ _ _ h => h) (Or.inl ⟨by rfl, ?_⟩) (by assumption) ?_
              rotate_left 1
              · intro w hSw
                (try dsimp only at hSw)
                go_simp
                try with_reducible rfl
              try simp only [Act.put]
              refine wpAnyH_take (i := 6) (v := ?_) rfl (by kernel_rfl) (by kernel_rfl) (by kernel_rfl) (fun _ _ _ h => h) (Or.inl ⟨by rfl, ?_⟩) (by assumption) ?_
              rotate_left 1
              · intro w hSw
                (try dsimp only at hSw)
                go_simp
                try with_reducible rfl
              try simp only [Act.put]
              refine wpAnyH_take (i := 11) (v := ?_) rfl (by kernel_rfl) (by kernel_rfl) (by kernel_rfl) (fun _ _ _ h => h) (Or.inl ⟨by rfl, ?_⟩) (by assumption) ?_
              rotate_left 1
              · intro w hSw
                (try dsimp only at hSw)
                go_simp
                try with_reducible rfl
              try simp only [Act.put]
              refine wpAnyH_take (i := 12) (v := ?_) rfl (by kernel_rfl) (by kernel_rfl) (by kernel_rfl) (fun _ _ _ h => h) (Or.inl ⟨by rfl, ?_⟩) (by assumption) ?_
              rotate_left 1
              · intro w hSw
                (try dsimp only at hSw)
                go_simp
                try with_reducible rfl
              try simp only [Act.put]
              refine wpAnyH_ready (rs := [2, 3]) (by kernel_rfl) (by simp) ?_
              refine AllReadyH.cons rfl (fun K hK => ?_) (AllReadyH.cons rfl (fun K hK => ?_) AllReadyH.nil)
              · go_simp
                go_at_call_of 15 (Value.slice L1 a1 x1)
                refine (HLw2.out _ ?_).mono ?_
                · exact (PrAt.drew HP2.out).2.2
                rintro e w3 ⟨⟨v3, rfl, ho3⟩, hb3⟩
                have HPa := Lib.hid (PrAt.below (PrAt.drew HP2.out) hb3)
                have HO3 := Lib.hid (show OwnT w3 w.heap.size v3 WL from own_mono ho3 (PrAt.drew HP2.out).2.2.size)
                clear ho3
                dsimp only
                refine hK.out _ _ ?_ (fun hHeld => ?_)
                · exact HC.out _ HPa.out
                clear hK K
                refine wpAnyH_ready (rs := [3]) (by kernel_rfl) (by simp) ?_
                refine AllReadyH.cons rfl (fun K hK => ?_) AllReadyH.nil
                go_simp
                refine hK.out _ _ ?_ (fun hHeld => ?_)
                · exact HC.out _ (PrAt.alloc HPa.out _)
                clear hK K
                have HPr := Lib.hid (PrAt.alloc HPa.out (.cells #[.string ⟨#[62]⟩, .string ⟨#[60]⟩, .string ⟨#[60, 62]⟩] 9))
                have HOr := Lib.hid (World.ownsRow.alloc HO3.out (.cells #[.string ⟨#[62]⟩, .string ⟨#[60]⟩, .string ⟨#[60, 62]⟩] 9))
                have hN1 := Rd.new (w3.alloc (.cells #[.string ⟨#[62]⟩, .string ⟨#[60]⟩, .string ⟨#[60, 62]⟩] 9)) 9 1 1 [.string ⟨#[60, 62]⟩] rfl
                rw [show (w3.alloc (.cells #[.string ⟨#[62]⟩, .string ⟨#[60]⟩, .string ⟨#[60, 62]⟩] 9)).heap.size = w3.heap.size + 1 by simp] at hN1
                have HN1 := Lib.hid hN1
                clear hN1 hb3
                refine wpAnyH_ready (rs := [7]) (by kernel_rfl) (by simp) ?_
                refine AllReadyH.cons rfl (fun K hK => ?_) AllReadyH.nil
                go_simp
                refine hK.out _ _ ?_ (fun hHeld => ?_)
                · exact HC.out _ HPr.out
                clear hK K
                refine wpAnyH_ready (rs := [8]) (by kernel_rfl) (by simp) ?_
                refine AllReadyH.cons rfl (fun K hK => ?_) AllReadyH.nil
                go_simp
                refine hK.out _ _ ?_ (fun hHeld => ?_)
                · exact HC.out _ HPr.out
                clear hK K
                refine wpAnyH_ready (rs := [9]) (by kernel_rfl) (by simp) ?_
                refine AllReadyH.cons rfl (fun K hK => ?_) AllReadyH.nil
                go_simp
                refine hK.out _ _ ?_ (fun hHeld => ?_)
                · exact HC.out _ (PrAt.alloc HPr.out _)
                clear hK K
                refine wpAnyH_ready (rs := [10]) (by kernel_rfl) (by simp) ?_
                refine AllReadyH.cons rfl (fun K hK => ?_) AllReadyH.nil
                refine step_append_rd _ rfl (.tmp 35) (.tmp 42) 47 rfl w.heap.size 9 i0 _ 1 16 Tryd.underlying47 hi hz0 hz1 hz2 rfl (by decide) _ _ _ rfl (World.ownsRow.alloc HOr.out (.cells #[.string ⟨#[60, 62]⟩] 9)) _ _ 1 1 [.string ⟨#[60, 62]⟩] rfl HN1.out (strVals_one [[60, 62]]) (by simp only [maxLen]; omega) (by omega) (PrAt.alloc HPr.out (.cells #[.string ⟨#[60, 62]⟩] 9)).2.2.size ?_
                intro v4 w4 happ
                have HPb := Lib.hid (PrAt.app (PrAt.alloc HPr.out (.cells #[.string ⟨#[60, 62]⟩] 9)) (World.ownsRow.alloc HOr.out (.cells #[.string ⟨#[60, 62]⟩] 9)) (Nat.le_refl _) happ)
                have HO4 := Lib.hid (OwnT.push (x := [60, 62]) rfl WL happ)
                clear happ
                refine hK.out _ _ ?_ (fun hHeld => ?_)
                · exact HC.out _ HPb.out
                clear hK K
                refine wpAnyH_ready (rs := [13]) (by kernel_rfl) (by simp) ?_
                refine AllReadyH.cons rfl (fun K hK => ?_) AllReadyH.nil
                go_simp
                go_at_call_of 15 (Value.slice R1 b1 y1)
                refine (HRw2.out _ ?_).mono ?_
                · exact HPb.out.2.2
                rintro e w5 ⟨⟨v5, rfl, ho5⟩, hb5⟩
                obtain ⟨A5, c5, rfl, _⟩ := own_form ho5
                have HPc := Lib.hid (PrAt.below HPb.out hb5)
                have HO5 := Lib.hid (own_below HO4.out hb5)
                have HR5 := Lib.hid (OwnT.rd ho5 rfl)
                clear ho5 hb5
                dsimp only
                refine hK.out _ _ ?_ (fun hHeld => ?_)
                · exact HC.out _ HPc.out
                clear hK K
                refine wpAnyH_ready (rs := [14]) (by kernel_rfl) (by simp) ?_
                refine AllReadyH.cons rfl (fun K hK => ?_) AllReadyH.nil
                refine step_append_rd _ rfl (.tmp 43) (.tmp 46) 47 rfl w.heap.size 9 i0 _ 1 16 Tryd.underlying47 hi hz0 hz1 hz2 rfl (by decide) _ _ _ rfl HO5.out _ _ _ _ (strVals WR) rfl HR5.out (strVals_one WR) (by simp only [maxLen, List.length_append, List.length_cons, List.length_nil]; omega) (by simp only [List.length_append, List.length_cons, List.length_nil]; omega) HPc.out.2.2.size ?_
                intro v6 w6 happ
                have HPd := Lib.hid (PrAt.app HPc.out HO5.out (Nat.le_refl _) happ)
                have HO6 := Lib.hid (OwnT.of happ (by simp; omega) (strVals_append _ _))
                clear happ
                refine hK.out _ _ ?_ (fun hHeld => ?_)
                · exact HC.out _ HPd.out
                clear hK K
                refine wpAnyH_take (i := 15) (v := ?_) rfl (by kernel_rfl) (by kernel_rfl) (by kernel_rfl) (fun _ _ _ h => h) (Or.inl ⟨by rfl, ?_⟩) (by assumption) ?_
                rotate_left 1
                · intro w hSw
                  (try dsimp only at hSw)
                  go_simp
                  try with_reducible rfl
                try simp only [Act.put]
                refine wpAnyH_done (by kernel_rfl) ?_ _
                go_simp
                go_wp2_with fail
                go_meet
                have := pw_own HPd.out HO6.out
                rw [HW.out]
                simpa using this
              · go_simp
                refine hK.out _ _ ?_ (fun hHeld => ?_)
                · exact HC.out _ (PrAt.alloc (PrAt.drew HP2.out) (.cells #[.string ⟨#[62]⟩, .string ⟨#[60]⟩, .string ⟨#[60, 62]⟩] 9))
                clear hK K
                refine wpAnyH_ready (rs := [2, 7]) (by kernel_rfl) (by simp) ?_
                refine AllReadyH.cons rfl (fun K hK => ?_) (AllReadyH.cons rfl (fun K hK => ?_) AllReadyH.nil)
                · go_simp
                  go_at_call_of 15 (Value.slice L1 a1 x1)
                  refine (HLw2.out _ ?_).mono ?_
                  · exact (PrAt.alloc (PrAt.drew HP2.out) (.cells #[.string ⟨#[62]⟩, .string ⟨#[60]⟩, .string ⟨#[60, 62]⟩] 9)).2.2
                  rintro e w3 ⟨⟨v3, rfl, ho3⟩, hb3⟩
                  have HPa := Lib.hid (PrAt.below (PrAt.alloc (PrAt.drew HP2.out) (.cells #[.string ⟨#[62]⟩, .string ⟨#[60]⟩, .string ⟨#[60, 62]⟩] 9)) hb3)
                  have HO3 := Lib.hid (show OwnT w3 w.heap.size v3 WL from own_mono ho3 (PrAt.alloc (PrAt.drew HP2.out) (.cells #[.string ⟨#[62]⟩, .string ⟨#[60]⟩, .string ⟨#[60, 62]⟩] 9)).2.2.size)
                  clear ho3
                  dsimp only
                  refine hK.out _ _ ?_ (fun hHeld => ?_)
                  · exact HC.out _ HPa.out
                  clear hK K
                  have HPr := HPa
                  have HOr := HO3
                  have HN1 := Lib.hid (Rd.new w3 9 1 1 [.string ⟨#[60, 62]⟩] rfl)
                  have hrow : w3.cell? ⟨w2.heap.size, 2, none⟩ = some (.string ⟨#[60, 62]⟩) := (hb3.cell (by simp)).trans ((Blk.new w2.drew 9 #[.string ⟨#[62]⟩, .string ⟨#[60]⟩, .string ⟨#[60, 62]⟩]).cell 2)
                  clear hb3
                  refine wpAnyH_ready (rs := [7]) (by kernel_rfl) (by simp) ?_
                  refine AllReadyH.cons rfl (fun K hK => ?_) AllReadyH.nil
                  go_simp
                  refine hK.out _ _ ?_ (fun hHeld => ?_)
                  · exact HC.out _ HPr.out
                  clear hK K
                  refine wpAnyH_ready (rs := [8]) (by kernel_rfl) (by simp) ?_
                  refine AllReadyH.cons rfl (fun K hK => ?_) AllReadyH.nil
                  go_simp
                  refine hK.out _ _ ?_ (fun hHeld => ?_)
                  · exact HC.out _ HPr.out
                  clear hK K
                  refine wpAnyH_ready (rs := [9]) (by kernel_rfl) (by simp) ?_
                  refine AllReadyH.cons rfl (fun K hK => ?_) AllReadyH.nil
                  go_simp
                  refine hK.out _ _ ?_ (fun hHeld => ?_)
                  · exact HC.out _ (PrAt.alloc HPr.out _)
                  clear hK K
                  refine wpAnyH_ready (rs := [10]) (by kernel_rfl) (by simp) ?_
                  refine AllReadyH.cons rfl (fun K hK => ?_) AllReadyH.nil
                  refine step_append_rd _ rfl (.tmp 35) (.tmp 42) 47 rfl w.heap.size 9 i0 _ 1 16 Tryd.underlying47 hi hz0 hz1 hz2 rfl (by decide) _ _ _ rfl (World.ownsRow.alloc HOr.out (.cells #[.string ⟨#[60, 62]⟩] 9)) _ _ 1 1 [.string ⟨#[60, 62]⟩] rfl HN1.out (strVals_one [[60, 62]]) (by simp only [maxLen]; omega) (by omega) (PrAt.alloc HPr.out (.cells #[.string ⟨#[60, 62]⟩] 9)).2.2.size ?_
                  intro v4 w4 happ
                  have HPb := Lib.hid (PrAt.app (PrAt.alloc HPr.out (.cells #[.string ⟨#[60, 62]⟩] 9)) (World.ownsRow.alloc HOr.out (.cells #[.string ⟨#[60, 62]⟩] 9)) (Nat.le_refl _) happ)
                  have HO4 := Lib.hid (OwnT.push (x := [60, 62]) rfl WL happ)
                  clear happ
                  refine hK.out _ _ ?_ (fun hHeld => ?_)
                  · exact HC.out _ HPb.out
                  clear hK K
                  refine wpAnyH_ready (rs := [13]) (by kernel_rfl) (by simp) ?_
                  refine AllReadyH.cons rfl (fun K hK => ?_) AllReadyH.nil
                  go_simp
                  go_at_call_of 15 (Value.slice R1 b1 y1)
                  refine (HRw2.out _ ?_).mono ?_
                  · exact HPb.out.2.2
                  rintro e w5 ⟨⟨v5, rfl, ho5⟩, hb5⟩
                  obtain ⟨A5, c5, rfl, _⟩ := own_form ho5
                  have HPc := Lib.hid (PrAt.below HPb.out hb5)
                  have HO5 := Lib.hid (own_below HO4.out hb5)
                  have HR5 := Lib.hid (OwnT.rd ho5 rfl)
                  clear ho5 hb5
                  dsimp only
                  refine hK.out _ _ ?_ (fun hHeld => ?_)
                  · exact HC.out _ HPc.out
                  clear hK K
                  refine wpAnyH_ready (rs := [14]) (by kernel_rfl) (by simp) ?_
                  refine AllReadyH.cons rfl (fun K hK => ?_) AllReadyH.nil
                  refine step_append_rd _ rfl (.tmp 43) (.tmp 46) 47 rfl w.heap.size 9 i0 _ 1 16 Tryd.underlying47 hi hz0 hz1 hz2 rfl (by decide) _ _ _ rfl HO5.out _ _ _ _ (strVals WR) rfl HR5.out (strVals_one WR) (by simp only [maxLen, List.length_append, List.length_cons, List.length_nil]; omega) (by simp only [List.length_append, List.length_cons, List.length_nil]; omega) HPc.out.2.2.size ?_
                  intro v6 w6 happ
                  have HPd := Lib.hid (PrAt.app HPc.out HO5.out (Nat.le_refl _) happ)
                  have HO6 := Lib.hid (OwnT.of happ (by simp; omega) (strVals_append _ _))
                  clear happ
                  refine hK.out _ _ ?_ (fun hHeld => ?_)
                  · exact HC.out _ HPd.out
                  clear hK K
                  refine wpAnyH_take (i := 15) (v := ?_) rfl (by kernel_rfl) (by kernel_rfl) (by kernel_rfl) (fun _ _ _ h => h) (Or.inl ⟨by rfl, ?_⟩) (by assumption) ?_
                  rotate_left 1
                  · intro w hSw
                    (try dsimp only at hSw)
                    go_simp
                    try with_reducible rfl
                  try simp only [Act.put]
                  refine wpAnyH_done (by kernel_rfl) ?_ _
                  go_simp
                  go_wp2_with fail
                  go_meet
                  have := pw_own HPd.out HO6.out
                  rw [HW.out]
                  simpa using this
                · go_simp
                  refine hK.out _ _ ?_ (fun hHeld => ?_)
                  · exact HC.out _ (PrAt.alloc (PrAt.drew HP2.out) (.cells #[.string ⟨#[62]⟩, .string ⟨#[60]⟩, .string ⟨#[60, 62]⟩] 9))
                  clear hK K
                  refine wpAnyH_ready (rs := [2, 8]) (by kernel_rfl) (by simp) ?_
                  refine AllReadyH.cons rfl (fun K hK => ?_) (AllReadyH.cons rfl (fun K hK => ?_) AllReadyH.nil)
                  · go_simp
                    go_at_call_of 15 (Value.slice L1 a1 x1)
                    refine (HLw2.out _ ?_).mono ?_
                    · exact (PrAt.alloc (PrAt.drew HP2.out) (.cells #[.string ⟨#[62]⟩, .string ⟨#[60]⟩, .string ⟨#[60, 62]⟩] 9)).2.2
                    rintro e w3 ⟨⟨v3, rfl, ho3⟩, hb3⟩
                    have HPa := Lib.hid (PrAt.below (PrAt.alloc (PrAt.drew HP2.out) (.cells #[.string ⟨#[62]⟩, .string ⟨#[60]⟩, .string ⟨#[60, 62]⟩] 9)) hb3)
                    have HO3 := Lib.hid (show OwnT w3 w.heap.size v3 WL from own_mono ho3 (PrAt.alloc (PrAt.drew HP2.out) (.cells #[.string ⟨#[62]⟩, .string ⟨#[60]⟩, .string ⟨#[60, 62]⟩] 9)).2.2.size)
                    clear ho3
                    dsimp only
                    refine hK.out _ _ ?_ (fun hHeld => ?_)
                    · exact HC.out _ HPa.out
                    clear hK K
                    have HPr := HPa
                    have HOr := HO3
                    have HN1 := Lib.hid (Rd.new w3 9 1 1 [.string ⟨#[60, 62]⟩] rfl)
                    have hrow : w3.cell? ⟨w2.heap.size, 2, none⟩ = some (.string ⟨#[60, 62]⟩) := (hb3.cell (by simp)).trans ((Blk.new w2.drew 9 #[.string ⟨#[62]⟩, .string ⟨#[60]⟩, .string ⟨#[60, 62]⟩]).cell 2)
                    clear hb3
                    refine wpAnyH_ready (rs := [8]) (by kernel_rfl) (by simp) ?_
                    refine AllReadyH.cons rfl (fun K hK => ?_) AllReadyH.nil
                    go_simp
                    refine hK.out _ _ ?_ (fun hHeld => ?_)
                    · exact HC.out _ HPr.out
                    clear hK K
                    refine wpAnyH_ready (rs := [9]) (by kernel_rfl) (by simp) ?_
                    refine AllReadyH.cons rfl (fun K hK => ?_) AllReadyH.nil
                    go_simp
                    refine hK.out _ _ ?_ (fun hHeld => ?_)
                    · exact HC.out _ (PrAt.alloc HPr.out _)
                    clear hK K
                    refine wpAnyH_ready (rs := [10]) (by kernel_rfl) (by simp) ?_
                    refine AllReadyH.cons rfl (fun K hK => ?_) AllReadyH.nil
                    refine step_append_rd _ rfl (.tmp 35) (.tmp 42) 47 rfl w.heap.size 9 i0 _ 1 16 Tryd.underlying47 hi hz0 hz1 hz2 rfl (by decide) _ _ _ rfl (World.ownsRow.alloc HOr.out (.cells #[.string ⟨#[60, 62]⟩] 9)) _ _ 1 1 [.string ⟨#[60, 62]⟩] rfl HN1.out (strVals_one [[60, 62]]) (by simp only [maxLen]; omega) (by omega) (PrAt.alloc HPr.out (.cells #[.string ⟨#[60, 62]⟩] 9)).2.2.size ?_
                    intro v4 w4 happ
                    have HPb := Lib.hid (PrAt.app (PrAt.alloc HPr.out (.cells #[.string ⟨#[60, 62]⟩] 9)) (World.ownsRow.alloc HOr.out (.cells #[.string ⟨#[60, 62]⟩] 9)) (Nat.le_refl _) happ)
                    have HO4 := Lib.hid (OwnT.push (x := [60, 62]) rfl WL happ)
                    clear happ
                    refine hK.out _ _ ?_ (fun hHeld => ?_)
                    · exact HC.out _ HPb.out
                    clear hK K
                    refine wpAnyH_ready (rs := [13]) (by kernel_rfl) (by simp) ?_
                    refine AllReadyH.cons rfl (fun K hK => ?_) AllReadyH.nil
                    go_simp
                    go_at_call_of 15 (Value.slice R1 b1 y1)
                    refine (HRw2.out _ ?_).mono ?_
                    · exact HPb.out.2.2
                    rintro e w5 ⟨⟨v5, rfl, ho5⟩, hb5⟩
                    obtain ⟨A5, c5, rfl, _⟩ := own_form ho5
                    have HPc := Lib.hid (PrAt.below HPb.out hb5)
                    have HO5 := Lib.hid (own_below HO4.out hb5)
                    have HR5 := Lib.hid (OwnT.rd ho5 rfl)
                    clear ho5 hb5
                    dsimp only
                    refine hK.out _ _ ?_ (fun hHeld => ?_)
                    · exact HC.out _ HPc.out
                    clear hK K
                    refine wpAnyH_ready (rs := [14]) (by kernel_rfl) (by simp) ?_
                    refine AllReadyH.cons rfl (fun K hK => ?_) AllReadyH.nil
                    refine step_append_rd _ rfl (.tmp 43) (.tmp 46) 47 rfl w.heap.size 9 i0 _ 1 16 Tryd.underlying47 hi hz0 hz1 hz2 rfl (by decide) _ _ _ rfl HO5.out _ _ _ _ (strVals WR) rfl HR5.out (strVals_one WR) (by simp only [maxLen, List.length_append, List.length_cons, List.length_nil]; omega) (by simp only [List.length_append, List.length_cons, List.length_nil]; omega) HPc.out.2.2.size ?_
                    intro v6 w6 happ
                    have HPd := Lib.hid (PrAt.app HPc.out HO5.out (Nat.le_refl _) happ)
                    have HO6 := Lib.hid (OwnT.of happ (by simp; omega) (strVals_append _ _))
                    clear happ
                    refine hK.out _ _ ?_ (fun hHeld => ?_)
                    · exact HC.out _ HPd.out
                    clear hK K
                    refine wpAnyH_take (i := 15) (v := ?_) rfl (by kernel_rfl) (by kernel_rfl) (by kernel_rfl) (fun _ _ _ h => h) (Or.inl ⟨by rfl, ?_⟩) (by assumption) ?_
                    rotate_left 1
                    · intro w hSw
                      (try dsimp only at hSw)
                      go_simp
                      try with_reducible rfl
                    try simp only [Act.put]
                    refine wpAnyH_done (by kernel_rfl) ?_ _
                    go_simp
                    go_wp2_with fail
                    go_meet
                    have := pw_own HPd.out HO6.out
                    rw [HW.out]
                    simpa using this
                  · go_simp
                    refine hK.out _ _ ?_ (fun hHeld => ?_)
                    · exact HC.out _ (PrAt.alloc (PrAt.drew HP2.out) (.cells #[.string ⟨#[62]⟩, .string ⟨#[60]⟩, .string ⟨#[60, 62]⟩] 9))
                    clear hK K
                    refine wpAnyH_ready (rs := [2, 9]) (by kernel_rfl) (by simp) ?_
                    refine AllReadyH.cons rfl (fun K hK => ?_) (AllReadyH.cons rfl (fun K hK => ?_) AllReadyH.nil)
                    · go_simp
                      go_at_call_of 15 (Value.slice L1 a1 x1)
                      refine (HLw2.out _ ?_).mono ?_
                      · exact (PrAt.alloc (PrAt.drew HP2.out) (.cells #[.string ⟨#[62]⟩, .string ⟨#[60]⟩, .string ⟨#[60, 62]⟩] 9)).2.2
                      rintro e w3 ⟨⟨v3, rfl, ho3⟩, hb3⟩
                      have HPa := Lib.hid (PrAt.below (PrAt.alloc (PrAt.drew HP2.out) (.cells #[.string ⟨#[62]⟩, .string ⟨#[60]⟩, .string ⟨#[60, 62]⟩] 9)) hb3)
                      have HO3 := Lib.hid (show OwnT w3 w.heap.size v3 WL from own_mono ho3 (PrAt.alloc (PrAt.drew HP2.out) (.cells #[.string ⟨#[62]⟩, .string ⟨#[60]⟩, .string ⟨#[60, 62]⟩] 9)).2.2.size)
                      clear ho3
                      dsimp only
                      refine hK.out _ _ ?_ (fun hHeld => ?_)
                      · exact HC.out _ HPa.out
                      clear hK K
                      have HPr := HPa
                      have HOr := HO3
                      have HN1 := Lib.hid (Rd.new w3 9 1 1 [.string ⟨#[60, 62]⟩] rfl)
                      clear hb3
                      refine wpAnyH_ready (rs := [9]) (by kernel_rfl) (by simp) ?_
                      refine AllReadyH.cons rfl (fun K hK => ?_) AllReadyH.nil
                      go_simp
                      refine hK.out _ _ ?_ (fun hHeld => ?_)
                      · exact HC.out _ (PrAt.alloc HPr.out _)
                      clear hK K
                      refine wpAnyH_ready (rs := [10]) (by kernel_rfl) (by simp) ?_
                      refine AllReadyH.cons rfl (fun K hK => ?_) AllReadyH.nil
                      refine step_append_rd _ rfl (.tmp 35) (.tmp 42) 47 rfl w.heap.size 9 i0 _ 1 16 Tryd.underlying47 hi hz0 hz1 hz2 rfl (by decide) _ _ _ rfl (World.ownsRow.alloc HOr.out (.cells #[.string ⟨#[60, 62]⟩] 9)) _ _ 1 1 [.string ⟨#[60, 62]⟩] rfl HN1.out (strVals_one [[60, 62]]) (by simp only [maxLen]; omega) (by omega) (PrAt.alloc HPr.out (.cells #[.string ⟨#[60, 62]⟩] 9)).2.2.size ?_
                      intro v4 w4 happ
                      have HPb := Lib.hid (PrAt.app (PrAt.alloc HPr.out (.cells #[.string ⟨#[60, 62]⟩] 9)) (World.ownsRow.alloc HOr.out (.cells #[.string ⟨#[60, 62]⟩] 9)) (Nat.le_refl _) happ)
                      have HO4 := Lib.hid (OwnT.push (x := [60, 62]) rfl WL happ)
                      clear happ
                      refine hK.out _ _ ?_ (fun hHeld => ?_)
                      · exact HC.out _ HPb.out
                      clear hK K
                      refine wpAnyH_ready (rs := [13]) (by kernel_rfl) (by simp) ?_
                      refine AllReadyH.cons rfl (fun K hK => ?_) AllReadyH.nil
                      go_simp
                      go_at_call_of 15 (Value.slice R1 b1 y1)
                      refine (HRw2.out _ ?_).mono ?_
                      · exact HPb.out.2.2
                      rintro e w5 ⟨⟨v5, rfl, ho5⟩, hb5⟩
                      obtain ⟨A5, c5, rfl, _⟩ := own_form ho5
                      have HPc := Lib.hid (PrAt.below HPb.out hb5)
                      have HO5 := Lib.hid (own_below HO4.out hb5)
                      have HR5 := Lib.hid (OwnT.rd ho5 rfl)
                      clear ho5 hb5
                      dsimp only
                      refine hK.out _ _ ?_ (fun hHeld => ?_)
                      · exact HC.out _ HPc.out
                      clear hK K
                      refine wpAnyH_ready (rs := [14]) (by kernel_rfl) (by simp) ?_
                      refine AllReadyH.cons rfl (fun K hK => ?_) AllReadyH.nil
                      refine step_append_rd _ rfl (.tmp 43) (.tmp 46) 47 rfl w.heap.size 9 i0 _ 1 16 Tryd.underlying47 hi hz0 hz1 hz2 rfl (by decide) _ _ _ rfl HO5.out _ _ _ _ (strVals WR) rfl HR5.out (strVals_one WR) (by simp only [maxLen, List.length_append, List.length_cons, List.length_nil]; omega) (by simp only [List.length_append, List.length_cons, List.length_nil]; omega) HPc.out.2.2.size ?_
                      intro v6 w6 happ
                      have HPd := Lib.hid (PrAt.app HPc.out HO5.out (Nat.le_refl _) happ)
                      have HO6 := Lib.hid (OwnT.of happ (by simp; omega) (strVals_append _ _))
                      clear happ
                      refine hK.out _ _ ?_ (fun hHeld => ?_)
                      · exact HC.out _ HPd.out
                      clear hK K
                      refine wpAnyH_take (i := 15) (v := ?_) rfl (by kernel_rfl) (by kernel_rfl) (by kernel_rfl) (fun _ _ _ h => h) (Or.inl ⟨by rfl, ?_⟩) (by assumption) ?_
                      rotate_left 1
                      · intro w hSw
                        (try dsimp only at hSw)
                        go_simp
                        try with_reducible rfl
                      try simp only [Act.put]
                      refine wpAnyH_done (by kernel_rfl) ?_ _
                      go_simp
                      go_wp2_with fail
                      go_meet
                      have := pw_own HPd.out HO6.out
                      rw [HW.out]
                      simpa using this
                    · go_simp
                      refine hK.out _ _ ?_ (fun hHeld => ?_)
                      · exact HC.out _ (PrAt.alloc (PrAt.alloc (PrAt.drew HP2.out) (.cells #[.string ⟨#[62]⟩, .string ⟨#[60]⟩, .string ⟨#[60, 62]⟩] 9)) (.cells #[.string ⟨#[60, 62]⟩] 9))
                      clear hK K
                      refine wpAnyH_ready (rs := [2]) (by kernel_rfl) (by simp) ?_
                      refine AllReadyH.cons rfl (fun K hK => ?_) AllReadyH.nil
                      go_simp
                      go_at_call_of 15 (Value.slice L1 a1 x1)
                      refine (HLw2.out _ ?_).mono ?_
                      · exact (PrAt.alloc (PrAt.alloc (PrAt.drew HP2.out) (.cells #[.string ⟨#[62]⟩, .string ⟨#[60]⟩, .string ⟨#[60, 62]⟩] 9)) (.cells #[.string ⟨#[60, 62]⟩] 9)).2.2
                      rintro e w3 ⟨⟨v3, rfl, ho3⟩, hb3⟩
                      have HPa := Lib.hid (PrAt.below (PrAt.alloc (PrAt.alloc (PrAt.drew HP2.out) (.cells #[.string ⟨#[62]⟩, .string ⟨#[60]⟩, .string ⟨#[60, 62]⟩] 9)) (.cells #[.string ⟨#[60, 62]⟩] 9)) hb3)
                      have HO3 := Lib.hid (show OwnT w3 w.heap.size v3 WL from own_mono ho3 (PrAt.alloc (PrAt.alloc (PrAt.drew HP2.out) (.cells #[.string ⟨#[62]⟩, .string ⟨#[60]⟩, .string ⟨#[60, 62]⟩] 9)) (.cells #[.string ⟨#[60, 62]⟩] 9)).2.2.size)
                      clear ho3
                      dsimp only
                      refine hK.out _ _ ?_ (fun hHeld => ?_)
                      · exact HC.out _ HPa.out
                      clear hK K
                      have hN1 := Rd.below (Rd.more (Rd.new (w2.drew.alloc (.cells #[.string ⟨#[62]⟩, .string ⟨#[60]⟩, .string ⟨#[60, 62]⟩] 9)) 9 1 1 [.string ⟨#[60, 62]⟩] rfl) (show _ ≤ ((w2.drew.alloc (.cells #[.string ⟨#[62]⟩, .string ⟨#[60]⟩, .string ⟨#[60, 62]⟩] 9)).alloc (.cells #[.string ⟨#[60, 62]⟩] 9)).heap.size by simp)) (show Below ((w2.drew.alloc (.cells #[.string ⟨#[62]⟩, .string ⟨#[60]⟩, .string ⟨#[60, 62]⟩] 9)).alloc (.cells #[.string ⟨#[60, 62]⟩] 9)).heap.size ((w2.drew.alloc (.cells #[.string ⟨#[62]⟩, .string ⟨#[60]⟩, .string ⟨#[60, 62]⟩] 9)).alloc (.cells #[.string ⟨#[60, 62]⟩] 9)) w3 from hb3)
                      rw [show (w2.drew.alloc (.cells #[.string ⟨#[62]⟩, .string ⟨#[60]⟩, .string ⟨#[60, 62]⟩] 9)).heap.size = w2.heap.size + 1 by simp] at hN1
                      have HN1 := Lib.hid hN1
                      clear hN1 hb3
                      refine wpAnyH_ready (rs := [10]) (by kernel_rfl) (by simp) ?_
                      refine AllReadyH.cons rfl (fun K hK => ?_) AllReadyH.nil
                      refine step_append_rd _ rfl (.tmp 35) (.tmp 42) 47 rfl w.heap.size 9 i0 _ 1 16 Tryd.underlying47 hi hz0 hz1 hz2 rfl (by decide) _ _ _ rfl HO3.out _ _ 1 1 [.string ⟨#[60, 62]⟩] rfl HN1.out (strVals_one [[60, 62]]) (by simp only [maxLen]; omega) (by omega) HPa.out.2.2.size ?_
                      intro v4 w4 happ
                      have HPb := Lib.hid (PrAt.app HPa.out HO3.out (Nat.le_refl _) happ)
                      have HO4 := Lib.hid (OwnT.push (x := [60, 62]) rfl WL happ)
                      clear happ
                      refine hK.out _ _ ?_ (fun hHeld => ?_)
                      · exact HC.out _ HPb.out
                      clear hK K
                      refine wpAnyH_ready (rs := [13]) (by kernel_rfl) (by simp) ?_
                      refine AllReadyH.cons rfl (fun K hK => ?_) AllReadyH.nil
                      go_simp
                      go_at_call_of 15 (Value.slice R1 b1 y1)
                      refine (HRw2.out _ ?_).mono ?_
                      · exact HPb.out.2.2
                      rintro e w5 ⟨⟨v5, rfl, ho5⟩, hb5⟩
                      obtain ⟨A5, c5, rfl, _⟩ := own_form ho5
                      have HPc := Lib.hid (PrAt.below HPb.out hb5)
                      have HO5 := Lib.hid (own_below HO4.out hb5)
                      have HR5 := Lib.hid (OwnT.rd ho5 rfl)
                      clear ho5 hb5
                      dsimp only
                      refine hK.out _ _ ?_ (fun hHeld => ?_)
                      · exact HC.out _ HPc.out
                      clear hK K
                      refine wpAnyH_ready (rs := [14]) (by kernel_rfl) (by simp) ?_
                      refine AllReadyH.cons rfl (fun K hK => ?_) AllReadyH.nil
                      refine step_append_rd _ rfl (.tmp 43) (.tmp 46) 47 rfl w.heap.size 9 i0 _ 1 16 Tryd.underlying47 hi hz0 hz1 hz2 rfl (by decide) _ _ _ rfl HO5.out _ _ _ _ (strVals WR) rfl HR5.out (strVals_one WR) (by simp only [maxLen, List.length_append, List.length_cons, List.length_nil]; omega) (by simp only [List.length_append, List.length_cons, List.length_nil]; omega) HPc.out.2.2.size ?_
                      intro v6 w6 happ
                      have HPd := Lib.hid (PrAt.app HPc.out HO5.out (Nat.le_refl _) happ)
                      have HO6 := Lib.hid (OwnT.of happ (by simp; omega) (strVals_append _ _))
                      clear happ
                      refine hK.out _ _ ?_ (fun hHeld => ?_)
                      · exact HC.out _ HPd.out
                      clear hK K
                      refine wpAnyH_take (i := 15) (v := ?_) rfl (by kernel_rfl) (by kernel_rfl) (by kernel_rfl) (fun _ _ _ h => h) (Or.inl ⟨by rfl, ?_⟩) (by assumption) ?_
                      rotate_left 1
                      · intro w hSw
                        (try dsimp only at hSw)
                        go_simp
                        try with_reducible rfl
                      try simp only [Act.put]
                      refine wpAnyH_done (by kernel_rfl) ?_ _
                      go_simp
                      go_wp2_with fail
                      go_meet
                      have := pw_own HPd.out HO6.out
                      rw [HW.out]
                      simpa using this
        case rest =>
          obtain ⟨A8, c8, rfl, hrd, hpr⟩ := hcut
          have HRD := Lib.hid hrd
          have HPR := Lib.hid hpr
          clear hrd hpr
          generalize hPW : partW p = PW at *
          have hpw300 : PW.length ≤ 300 := HPW.out.1
          go_wp2_with fail
          go_loopw [5, 66] (FwRel wc T PW) (fun _ i _ => PW.length - (intOf i).toNat)
          case atStart => exact ⟨0, Nat.zero_le _, rfl, by simp, rfl⟩
          case round =>
            obtain ⟨j, hj, rfl, rfl, rfl⟩ := hrel
            by_cases hjl : j < PW.length
            · obtain ⟨x, hx⟩ : ∃ z, PW[j]? = some z := ⟨_, List.getElem?_eq_getElem hjl⟩
              have hxl := HPW.out.2 x (List.mem_of_getElem? hx)
              obtain ⟨b9, off9, u, rfl, _, hu, hc⟩ := Rd.at1 HRD.out hjl
              rw [strVals_at hx] at hu
              obtain rfl := Option.some.inj hu
              have hfk := flat_len (PW.take j) (fun y hy => HPW.out.2 y (List.mem_of_mem_take hy))
              have hfk2 : (PW.take j).length * 4301 ≤ 300 * 4301 := Nat.mul_le_mul_right _ (Nat.le_trans (List.length_take_le _ _) (by omega))
              have HTF := Lib.hid (take_flat hx)
              generalize hT2 : T ++ (PW.take j).flatMap (fun x => x ++ [32]) = T2 at *
              have hT2l : T2.length ≤ 300000000 := by rw [← hT2, List.length_append]; omega
              have HT2 := Lib.hid hT2
              clear hT2 hx hu hfk hfk2
              go_wp2_with fail
              refine ⟨⟨j + 1, by omega, by go_num, ?_, rfl⟩, by simp [intOf]; omega⟩
              rw [HTF.out, ← List.append_assoc, HT2.out, ← ba_append, ← ba_append, ← ByteArray.append_assoc]
            · obtain rfl : j = PW.length := by omega
              rw [List.take_of_length_le (Nat.le_refl _)] at *
              have hfk := HFL.out
              generalize hT2 : T ++ PW.flatMap (fun x => x ++ [32]) = T2 at *
              have hT2l : T2.length ≤ 300000000 := by rw [← hT2, List.length_append]; omega
              have HT2 := Lib.hid hT2
              clear hT2 hfk
              have HPT := Lib.hid (show T ++ partT p = T2 ++ [59, 10] by rw [← HT2.out]; unfold partT; rw [hPW, List.append_assoc])
              go_wp2_with fail
              refine ⟨⟨k + 1, T2 ++ [59, 10], by omega, by go_num, by rw [ba_append], ?_, ?_, HPR.out.1, HPR.out.2.2⟩, by simp [intOf]; omega⟩
              · rw [HGO.out, ← HPT.out, List.append_assoc]
              · rw [← HPT.out, List.length_append, Nat.succ_mul]; omega
      · obtain rfl : k = n := by omega
        rw [List.drop_of_length_le (by rw [HLEN.out]; omega)] at hgo
        have HGO := Lib.hid (hgo.trans (show T ++ fileT [] = T by simp [fileT]))
        have q0 : wr.cell? ⟨w.heap.size, 0, none⟩ = some (.int .i64 0) := hres.cell 0
        have q1 : wr.cell? ⟨w.heap.size, 1, none⟩ = some (.int .i64 0) := hres.cell 1
        have q2 := hres.frozen 0
        have q3 := hres.frozen 1
        clear hgo hres
        go_wp2_with fail
        rw [HT.out, HFP.out, HGO.out]
        exact bodyPost_ret (v := .tuple #[.string ⟨T.toArray⟩, .agg #[.int .i64 0, .int .i64 0]]) (by simp [results, Tryd.results5, go_sem, q0, q1]) rfl ⟨rfl, (hb.setCell (by simp) _).setCell (by simp) _⟩
  · have hne : ((fileP l).1 != 0) = true := by simpa using he
    have HT := Lib.hid (show textP l = ⟨#[]⟩ by unfold textP; rw [if_neg he])
    clear he
    generalize hF1 : (fileP l).1 = F1 at *
    generalize hF2 : (fileP l).2 = F2 at *
    clear hF1 hF2
    go_enter Tryd.func5, Tryd.ntmps5
    go_wp2_with fail
    refine (HRF.out _ HB0.out).mono ?_
    rintro e w1 ⟨rfl, hb1⟩
    have HB1 := Lib.hid (HB0.out.trans (hb1.mono HB0.out.size))
    have HK1 := Lib.hid (Blk.below HK0.out hb1 HK0.out.lt)
    have q0 : w1.cell? ⟨w.heap.size, 0, none⟩ = some (.int .i64 0) := HK1.out.cell 0
    have q1 : w1.cell? ⟨w.heap.size, 1, none⟩ = some (.int .i64 0) := HK1.out.cell 1
    have q2 := HK1.out.frozen 0
    have q3 := HK1.out.frozen 1
    clear hb1
    go_wp2_with fail
    go_upto_region 3 with fail
    have b0 := Blk.new w1 25 #[.int .i64 F1, .int .i64 F2]
    have b1 := Blk.alloc HK1.out (.cells #[.int .i64 F1, .int .i64 F2] 25)
    have b2 := HB1.out.alloc HB1.out.size (.cells #[.int .i64 F1, .int .i64 F2] 25)
    have hzz := HB1.out.size
    clear q0 q1 q2 q3
    have hne2 : w.heap.size ≠ w1.heap.size := Nat.ne_of_lt HK1.out.lt
    generalize w1.alloc (.cells #[.int .i64 F1, .int .i64 F2] 25) = W3 at *
    have q0 : W3.cell? ⟨w.heap.size, 0, none⟩ = some (.int .i64 0) := b1.cell 0
    have q1 : W3.cell? ⟨w.heap.size, 1, none⟩ = some (.int .i64 0) := b1.cell 1
    have q2 := b1.frozen 0
    have q3 := b1.frozen 1
    have p0 : W3.cell? ⟨w1.heap.size, 0, none⟩ = some (.int .i64 F1) := b0.cell 0
    have p1 : W3.cell? ⟨w1.heap.size, 1, none⟩ = some (.int .i64 F2) := b0.cell 1
    have HB2 := Lib.hid b2
    clear b0 b1 b2
    go_region
    all_goals
      go_wp2_with fail
      rw [HT.out]
      exact bodyPost_ret (v := .tuple #[.string ⟨#[]⟩, .agg #[.int .i64 F1, .int .i64 F2]]) (by simp [results, Tryd.results5, go_sem, q0, q1]) rfl ⟨rfl, (HB2.out.drew.setCell (by simp) _).setCell (by simp) _⟩

end Go.Proofs.YtdfljicijfceeaaDoor
