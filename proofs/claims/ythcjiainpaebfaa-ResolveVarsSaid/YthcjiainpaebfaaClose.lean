/- The closure close of resolve.ready: the rules at hand become a pass, forth and back. -/
import Derived.Test.YthcjiainpaebfaaReadySt
import Derived.Deep.DeepCutAuto
namespace Go.Proofs.Ythcjiainpaebfaa
open Go.RowKit

theorem infoPassB : (Try.prog.info? 55).map (fun i => (i.zero, i.size, i.bytes)) = some (some (.agg #[.string ⟨#[]⟩, .slice none 0 0]), 2, 40) := by kernel_rfl

/-- All blocks but those of the four variables and of the two rows of passes are as they were. -/
def But4 (ga gb gp gq : Nat) (vp vq : Value) (w w' : World) : Prop :=
  w'.os = w.os ∧ w'.tape = w.tape ∧ w'.output = w.output ∧ w.heap.size ≤ w'.heap.size ∧
  ∀ k, k < w.heap.size → k ≠ ga → k ≠ gb → k ≠ gp → k ≠ gq → vp.ownBlock ≠ some k → vq.ownBlock ≠ some k → w'.heap[k]? = w.heap[k]?
/-- The four variables' cells. -/
def Vars4 (ga gb gp gq : Nat) (ca cb cp cq : Value) (w : World) : Prop :=
  Blk w ga 53 #[ca] ∧ Blk w gb 53 #[cb] ∧ Blk w gp 24 #[cp] ∧ Blk w gq 24 #[cq]
structure Place4 (B lo ga gb gp gq : Nat) : Prop where
  Bl : B ≤ lo
  a1 : B ≤ ga
  a2 : ga < lo
  b1 : B ≤ gb
  b2 : gb < lo
  p1 : B ≤ gp
  p2 : gp < lo
  q1 : B ≤ gq
  q2 : gq < lo
  ab : ga ≠ gb
  ap : ga ≠ gp
  aq : ga ≠ gq
  bp : gb ≠ gp
  bq : gb ≠ gq
  pq : gp ≠ gq
theorem own_set_lt {w : World} {lo sz n g i : Nat} {e : TypeId} {v u : Value} {xs : List Value} (h : w.ownsRow lo e sz v n xs) (hg : g < lo) : (w.setCell ⟨g, i, none⟩ u).ownsRow lo e sz v n xs := by
  rcases h.2 with ⟨hv, h0⟩ | ⟨k, cap, cur, hv, h1, h2, h3⟩
  · exact ⟨h.1, .inl ⟨hv, h0⟩⟩
  · refine ⟨h.1, .inr ⟨k, cap, cur, hv, h1, ?_, h3⟩⟩
    rw [Below.heap_setCell _ _ _ _ (show k ≠ g by omega)]
    exact h2
section
variable {B lo : Nat} {A A2 : List RuleD} {P P2 : List PassD} {va vb vp vq : Value} {wx : World}
theorem RySt.set {g i : Nat} {u : Value} (h : RySt B lo A A2 P P2 va vb vp vq wx) (h1 : B ≤ g) (h2 : g < lo) : RySt B lo A A2 P P2 va vb vp vq (wx.setCell ⟨g, i, none⟩ u) :=
  RySt.kept (Keeps.setCell u (fun b hb => by rcases hb with h | h <;> dsimp only <;> omega) (fun _ h _ => h)) (fun _ _ _ _ _ h => own_set_lt h h2) h
end
def ClRel (B lo ga gb gp gq : Nat) (A2 : List RuleD) (P P2 : List PassD) (ca vb vp vq : Value) (w : World) (wx : World) : Prop :=
  ∃ vp', RySt B lo [] A2 P P2 (.slice none 0 0) vb vp' vq wx ∧ Vars4 ga gb gp gq ca vb vp' vq wx ∧ But4 ga gb gp gq vp vq w wx ∧ (∀ k, vp'.ownBlock = some k → vp.ownBlock = some k ∨ w.heap.size ≤ k)

set_option maxRecDepth 100000 in
set_option maxHeartbeats 1600000 in
theorem syn_close (B lo ga gb gp gq : Nat) (pl : Place4 B lo ga gb gp gq) (A A2 : List RuleD) (P P2 : List PassD) (va vb vp vq : Value) (w : World) (hlo : lo ≤ w.heap.size) (hst : RySt B lo A A2 P P2 va vb vp vq w) (hv : Vars4 ga gb gp gq va vb vp vq w)
    (hA : A.length ≤ 1000) (hA2 : A2.length ≤ 1000) (hP : P.length ≤ 1000) (hP2 : P2.length ≤ 1000) :
    Calls Try.prog 23 #[.pointer (some ⟨ga, 0, none⟩), .pointer (some ⟨gp, 0, none⟩), .pointer (some ⟨gb, 0, none⟩), .pointer (some ⟨gq, 0, none⟩)] w fun e w' => e = .returned (.tuple #[]) ∧
      ∃ vp' vq', RySt B lo [] [] (P ++ pend A) (P2 ++ pend A2) (.slice none 0 0) (.slice none 0 0) vp' vq' w' ∧ Vars4 ga gb gp gq (.slice none 0 0) (.slice none 0 0) vp' vq' w' ∧ But4 ga gb gp gq vp vq w w' ∧ (∀ k, vp'.ownBlock = some k → vp.ownBlock = some k ∨ w.heap.size ≤ k) ∧ (∀ k, vq'.ownBlock = some k → vq.ownBlock = some k ∨ w.heap.size ≤ k) := by
  obtain ⟨i0, hi, hz0, hz1, hz2⟩ := info_parts infoPassB
  obtain ⟨pBl, pa1, pa2, pb1, pb2, pp1, pp2, pq1, pq2, pab, pap, paq, pbp, pbq, ppq⟩ := pl
  obtain ⟨Aa, ka, rfl, _⟩ := hst.1.form
  obtain ⟨Ab, kb, rfl, _⟩ := hst.2.1.form
  obtain ⟨Ap, kp, rfl, _⟩ := hst.2.2.1.form
  obtain ⟨Aq, kq, rfl, _⟩ := hst.2.2.2.1.form
  have a0 : w.cell? ⟨ga, 0, none⟩ = some (.slice Aa A.length ka) := hv.1.cell 0
  have HST := Lib.hid hst
  have HV := Lib.hid hv
  clear hst hv
  go_enter Try.func23, Try.ntmps23
  go_upto_if 6 with fail
  go_cut [] (fun wx => ClRel B lo ga gb gp gq A2 (P ++ pend A) P2 (.slice Aa A.length ka) (.slice Ab A2.length kb) (.slice Ap P.length kp) (.slice Aq P2.length kq) w wx)
  case first =>
    by_cases h0 : 0 < A.length
    · obtain ⟨x, r, hxr⟩ : ∃ x r, A = x :: r := by
        cases A with
        | nil => simp at h0
        | cons x r => exact ⟨x, r, rfl⟩
      have HPE := Lib.hid (show pend A = [⟨⟨#[]⟩, A⟩] by rw [hxr]; rfl)
      clear hxr
      have b0 : w.cell? ⟨gp, 0, none⟩ = some (.slice Ap P.length kp) := HV.out.2.2.1.cell 0
      have hdr := HST.out.drop
      have hps := HST.out.pass (by unfold maxLen; omega) ⟨#[]⟩
      have hd2 := hdr
      obtain ⟨_, _, ⟨css, g1, g2, g3, g4⟩, _⟩ := hd2
      have HN := Lib.hid (Rd.new w 55 2 1 [.string ⟨#[]⟩, .slice Aa A.length ka] rfl)
      have HO := Lib.hid (World.ownsRow.alloc g4 (.cells #[.string ⟨#[]⟩, .slice Aa A.length ka] 55))
      have HD := Lib.hid hdr
      have HP := Lib.hid hps
      have G1 := Lib.hid g1
      have G2 := Lib.hid g2
      have G3 := Lib.hid g3
      have G4 := Lib.hid g4
      have H1C := Lib.hid (show ∀ u ∈ [Value.string ⟨#[]⟩, Value.slice Aa A.length ka], u.oneCell' = true by intro x hx; simp at hx; rcases hx with rfl | rfl <;> rfl)
      have HZ := Lib.hid (show lo ≤ (w.alloc (.cells #[.string ⟨#[]⟩, .slice Aa A.length ka] 55)).heap.size by simp; omega)
      clear hdr hps g1 g2 g3 g4
      go_wp2_with (at_builtin; refine wpList_append_rd _ rfl (.tmp 7) (.tmp 10) 24 rfl lo 55 i0 _ 2 40 Try.underlying24 hi hz0 hz1 hz2 rfl (by decide) _ _ _ rfl HO.out _ (some ⟨w.heap.size, 0, none⟩) 1 1 [.string ⟨#[]⟩, .slice Aa A.length ka] rfl HN.out H1C.out (by simp only [maxLen]; omega) (by omega) HZ.out ?_)
      intro v9 w9 happ
      have hsz := HZ.out
      have ho9 := happ.own
      obtain ⟨A9, k9, rfl, _⟩ := own_form ho9
      clear ho9
      have hry := RySt.pushP pBl HD.out G1.out G2.out G3.out G4.out HP.out rfl happ
      have hv9 := blk_app (Blk.alloc HV.out.2.2.1 (.cells #[.string ⟨#[]⟩, .slice Aa A.length ka] 55)) HO.out (by decide) happ
      have hva := blk_app (Blk.alloc HV.out.1 (.cells #[.string ⟨#[]⟩, .slice Aa A.length ka] 55)) HO.out (by decide) happ
      have hvb := blk_app (Blk.alloc HV.out.2.1 (.cells #[.string ⟨#[]⟩, .slice Aa A.length ka] 55)) HO.out (by decide) happ
      have hvq := blk_app (Blk.alloc HV.out.2.2.2 (.cells #[.string ⟨#[]⟩, .slice Aa A.length ka] 55)) HO.out (by decide) happ
      have c9 : w9.cell? ⟨gp, 0, none⟩ = some (.slice Ap P.length kp) := hv9.cell 0
      have f9 := hv9.frozen 0
      have hbut : But4 ga gb gp gq (.slice Ap P.length kp) (.slice Aq P2.length kq) w w9 := by
        refine ⟨happ.2.1.os, happ.2.1.tape, happ.2.1.output, Nat.le_trans (by simp) happ.2.1.size, fun k hk _ _ _ _ h1 _ => ?_⟩
        exact (happ.2.1.block k (by simp; omega) (fun e => h1 e.symm)).trans (heap_alloc_old w _ hk)
      have hgr : ∀ k, (Value.slice A9 (P.length + 1) k9).ownBlock = some k → (Value.slice Ap P.length kp).ownBlock = some k ∨ w.heap.size ≤ k := by
        intro k hk
        rcases happ.2.2 with e | e
        · exact .inl (e ▸ hk)
        · rw [e] at hk
          injection hk with hk
          right
          simp at hk
          omega
      have HRY := Lib.hid hry
      have HBUT := Lib.hid hbut
      have HGR := Lib.hid hgr
      have HV9 := Lib.hid hv9
      have HVA := Lib.hid hva
      have HVB := Lib.hid hvb
      have HVQ := Lib.hid hvq
      clear happ hry hv9 hva hvb hvq hbut hgr
      go_wp2_with fail
      go_meet
      refine ⟨.slice A9 (P.length + 1) k9, ?_, ⟨blk_set_ne HVA.out pap, blk_set_ne HVB.out pbp, ?_, blk_set_ne HVQ.out (Ne.symm ppq)⟩, ⟨HBUT.out.1, HBUT.out.2.1, HBUT.out.2.2.1, by simpa using HBUT.out.2.2.2.1, fun k hk h1 h2 h3 h4 h5 h6 => ?_⟩, HGR.out⟩
      · rw [HPE.out]
        exact RySt.set HRY.out pp1 pp2
      · exact HV9.out.put 0 _
      · exact (Below.heap_setCell _ _ _ _ h3).trans (HBUT.out.2.2.2.2 k hk h1 h2 h3 h4 h5 h6)
    · have hA0 : A = [] := List.eq_nil_of_length_eq_zero (by omega)
      have HPE := Lib.hid (show P ++ pend A = P by rw [hA0]; simp [pend])
      clear hA0
      go_wp2_with fail
      go_meet
      refine ⟨_, ?_, HV.out, ⟨rfl, rfl, rfl, Nat.le_refl _, fun _ _ _ _ _ _ _ _ => rfl⟩, fun k hk => .inl hk⟩
      rw [HPE.out]
      exact HST.out.drop
  case rest =>
    obtain ⟨vp', hr1, hv1, hb1, hg1⟩ := hcut
    obtain ⟨Ap', kp', rfl, _⟩ := hr1.2.2.1.form
    have HR1 := Lib.hid hr1.swapA.swapP
    have HV1 := Lib.hid hv1
    have HB1 := Lib.hid hb1
    have HG1 := Lib.hid hg1
    have b0 : wc.cell? ⟨gb, 0, none⟩ = some (.slice Ab A2.length kb) := hv1.2.1.cell 0
    have hPl : (P ++ pend A).length ≤ 1001 := by rw [List.length_append]; cases A <;> simp [pend] <;> omega
    clear hr1 hv1 hb1 hg1
    generalize hP1 : P ++ pend A = P1 at *
    have HP1 := Lib.hid hP1
    clear hP1
    go_upto_if 14 with fail
    go_cut [] (fun wx => ∃ vq', RySt B lo [] [] (P2 ++ pend A2) P1 (.slice none 0 0) (.slice none 0 0) vq' (.slice Ap' P1.length kp') wx ∧ Vars4 ga gb gp gq (.slice Aa A.length ka) (.slice Ab A2.length kb) (.slice Ap' P1.length kp') vq' wx ∧ But4 ga gb gp gq (.slice Ap P.length kp) (.slice Aq P2.length kq) w wx ∧ (∀ k, vq'.ownBlock = some k → (Value.slice Aq P2.length kq).ownBlock = some k ∨ w.heap.size ≤ k))
    case first =>
      by_cases h0 : 0 < A2.length
      · obtain ⟨x, r, hxr⟩ : ∃ x r, A2 = x :: r := by
          cases A2 with
          | nil => simp at h0
          | cons x r => exact ⟨x, r, rfl⟩
        have HPE := Lib.hid (show pend A2 = [⟨⟨#[]⟩, A2⟩] by rw [hxr]; rfl)
        clear hxr
        have b1 : wc.cell? ⟨gq, 0, none⟩ = some (.slice Aq P2.length kq) := HV1.out.2.2.2.cell 0
        have hdr := HR1.out.drop
        have hps := HR1.out.pass (by unfold maxLen; omega) ⟨#[]⟩
        have hd2 := hdr
        obtain ⟨_, _, ⟨css, g1, g2, g3, g4⟩, _⟩ := hd2
        have HN := Lib.hid (Rd.new wc 55 2 1 [.string ⟨#[]⟩, .slice Ab A2.length kb] rfl)
        have HO := Lib.hid (World.ownsRow.alloc g4 (.cells #[.string ⟨#[]⟩, .slice Ab A2.length kb] 55))
        have HD := Lib.hid hdr
        have HP := Lib.hid hps
        have G1 := Lib.hid g1
        have G2 := Lib.hid g2
        have G3 := Lib.hid g3
        have G4 := Lib.hid g4
        have H1C := Lib.hid (show ∀ u ∈ [Value.string ⟨#[]⟩, Value.slice Ab A2.length kb], u.oneCell' = true by intro x hx; simp at hx; rcases hx with rfl | rfl <;> rfl)
        have hwc := HB1.out.2.2.2.1
        have HZ := Lib.hid (show lo ≤ (wc.alloc (.cells #[.string ⟨#[]⟩, .slice Ab A2.length kb] 55)).heap.size by simp; omega)
        clear hdr hps g1 g2 g3 g4
        go_wp2_with (at_builtin; refine wpList_append_rd _ rfl (.tmp 15) (.tmp 18) 24 rfl lo 55 i0 _ 2 40 Try.underlying24 hi hz0 hz1 hz2 rfl (by decide) _ _ _ rfl HO.out _ (some ⟨wc.heap.size, 0, none⟩) 1 1 [.string ⟨#[]⟩, .slice Ab A2.length kb] rfl HN.out H1C.out (by simp only [maxLen]; omega) (by omega) HZ.out ?_)
        intro v9 w9 happ
        have hsz := HZ.out
        have ho9 := happ.own
        obtain ⟨A9, k9, rfl, _⟩ := own_form ho9
        clear ho9
        have hry := RySt.pushP pBl HD.out G1.out G2.out G3.out G4.out HP.out rfl happ
        have hv9 := blk_app (Blk.alloc HV1.out.2.2.2 (.cells #[.string ⟨#[]⟩, .slice Ab A2.length kb] 55)) HO.out (by decide) happ
        have hva := blk_app (Blk.alloc HV1.out.1 (.cells #[.string ⟨#[]⟩, .slice Ab A2.length kb] 55)) HO.out (by decide) happ
        have hvb := blk_app (Blk.alloc HV1.out.2.1 (.cells #[.string ⟨#[]⟩, .slice Ab A2.length kb] 55)) HO.out (by decide) happ
        have hvp := blk_app (Blk.alloc HV1.out.2.2.1 (.cells #[.string ⟨#[]⟩, .slice Ab A2.length kb] 55)) HO.out (by decide) happ
        have c9 : w9.cell? ⟨gq, 0, none⟩ = some (.slice Aq P2.length kq) := hv9.cell 0
        have f9 := hv9.frozen 0
        have hbut : But4 ga gb gp gq (.slice Ap P.length kp) (.slice Aq P2.length kq) w w9 := by
          obtain ⟨y1, y2, y3, y4, y5⟩ := HB1.out
          refine ⟨happ.2.1.os.trans y1, happ.2.1.tape.trans y2, happ.2.1.output.trans y3, Nat.le_trans y4 (Nat.le_trans (by simp) happ.2.1.size), fun k hk z1 z2 z3 z4 h1 h2 => ?_⟩
          exact ((happ.2.1.block k (by simp; omega) (fun e => h2 e.symm)).trans (heap_alloc_old wc _ (by omega))).trans (y5 k hk z1 z2 z3 z4 h1 h2)
        have hgr : ∀ k, (Value.slice A9 (P2.length + 1) k9).ownBlock = some k → (Value.slice Aq P2.length kq).ownBlock = some k ∨ w.heap.size ≤ k := by
          intro k hk
          rcases happ.2.2 with e | e
          · exact .inl (e ▸ hk)
          · rw [e] at hk
            injection hk with hk
            right
            simp at hk
            omega
        have HRY := Lib.hid hry
        have HBUT := Lib.hid hbut
        have HGR := Lib.hid hgr
        have HV9 := Lib.hid hv9
        have HVA := Lib.hid hva
        have HVB := Lib.hid hvb
        have HVP := Lib.hid hvp
        clear happ hry hv9 hva hvb hvp hbut hgr
        go_wp2_with fail
        go_meet
        refine ⟨.slice A9 (P2.length + 1) k9, ?_, ⟨blk_set_ne HVA.out paq, blk_set_ne HVB.out pbq, blk_set_ne HVP.out ppq, HV9.out.put 0 _⟩, ⟨HBUT.out.1, HBUT.out.2.1, HBUT.out.2.2.1, by simpa using HBUT.out.2.2.2.1, fun k hk h1 h2 h3 h4 h5 h6 => ?_⟩, HGR.out⟩
        · rw [HPE.out]
          exact RySt.set HRY.out pq1 pq2
        · exact (Below.heap_setCell _ _ _ _ h4).trans (HBUT.out.2.2.2.2 k hk h1 h2 h3 h4 h5 h6)
      · have hA0 : A2 = [] := List.eq_nil_of_length_eq_zero (by omega)
        have HPE := Lib.hid (show P2 ++ pend A2 = P2 by rw [hA0]; simp [pend])
        clear hA0
        go_wp2_with fail
        go_meet
        refine ⟨_, ?_, HV1.out, HB1.out, fun k hk => .inl hk⟩
        rw [HPE.out]
        exact HR1.out.drop
    case rest =>
      obtain ⟨vq', hr2, hv2, hb2, hg2⟩ := hcut
      have c1 : wc.cell? ⟨ga, 0, none⟩ = some (.slice Aa A.length ka) := hv2.1.cell 0
      have c2 : wc.cell? ⟨gb, 0, none⟩ = some (.slice Ab A2.length kb) := hv2.2.1.cell 0
      have f1 := hv2.1.frozen 0
      have f2 := hv2.2.1.frozen 0
      have HR2 := Lib.hid hr2
      have HV2 := Lib.hid hv2
      have HB2 := Lib.hid hb2
      have HG2 := Lib.hid hg2
      clear hr2 hv2 hb2 hg2
      go_wp2_with fail
      go_end0
      rw [HP1.out]
      refine ⟨rfl, _, vq', (RySt.set (RySt.set HR2.out pa1 pa2) pb1 pb2).swapP, ⟨blk_set_ne (HV2.out.1.put 0 _) pab, (blk_set_ne HV2.out.2.1 (Ne.symm pab)).put 0 _, blk_set_ne (blk_set_ne HV2.out.2.2.1 (Ne.symm pap)) (Ne.symm pbp), blk_set_ne (blk_set_ne HV2.out.2.2.2 (Ne.symm paq)) (Ne.symm pbq)⟩, ⟨HB2.out.1, HB2.out.2.1, HB2.out.2.2.1, by simpa using HB2.out.2.2.2.1, fun k hk h1 h2 h3 h4 h5 h6 => ?_⟩, HG1.out, HG2.out⟩
      exact ((Below.heap_setCell _ _ _ _ h2).trans (Below.heap_setCell _ _ _ _ h1)).trans (HB2.out.2.2.2.2 k hk h1 h2 h3 h4 h5 h6)

end Go.Proofs.Ythcjiainpaebfaa
