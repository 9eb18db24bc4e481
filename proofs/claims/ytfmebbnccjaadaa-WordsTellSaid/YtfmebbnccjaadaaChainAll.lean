/- What all passes make of a piece: allI. The walk of chain.all. -/
import Derived.Test.YtfmebbnccjaadaaScript
namespace Go.Proofs.Ytfmebbnccjaadaa
open Go.RowKit

theorem runGo_small (l : List RuleD) : ∀ (left : Nat) (done rest : List Int) (s p : Nat), done.length + rest.length ≤ 4000 → (runGo l left done rest s p).1.text.length ≤ 4000 := by
  intro left
  induction left with
  | zero =>
    intro done rest s p h
    cases rest with
    | nil => simpa [runGo_nil] using h
    | cons z rest => exact Nat.zero_le _
  | succ left ih =>
    intro done rest s p h
    cases rest with
    | nil => simpa [runGo_nil] using h
    | cons z rest =>
      rw [runGo]
      split
      · refine ih _ _ _ _ ?_
        simp only [List.length_append, List.length_cons, List.length_nil] at h ⊢
        omega
      · split
        · exact Nat.zero_le _
        · split
          · exact Nat.zero_le _
          · rename_i hm
            refine ih _ _ _ _ ?_
            rw [List.length_append, Nat.add_assoc, ← List.length_append, List.take_append_drop]
            omega
theorem textP_small {t : List Int} (h : textP t = 0) : t.length ≤ 4000 := by
  unfold textP at h
  by_cases h4 : 4000 < t.length
  · rw [if_pos h4] at h; cases h
  · omega
theorem play_small (l : List RuleD) (t : List Int) : (playP l t).1.text.length ≤ 4000 := by
  unfold playP
  split
  · exact Nat.zero_le _
  · split
    · exact Nat.zero_le _
    · rename_i h
      split
      · exact Nat.zero_le _
      · unfold okOut
        split
        · exact Nat.zero_le _
        · exact runGo_small l _ _ _ _ _ (by have := textP_small (t := t) (by omega); simpa using this)
theorem pass_small (p : PassD) {l : List Int} (h : l.length ≤ 4000) : (passI p l).1.length ≤ 4000 := by
  unfold passI
  split
  · simpa using h
  · split
    · simpa using h
    · split
      · exact Nat.zero_le _
      · split
        · exact h
        · exact play_small _ _
def allI : Nat → List PassD → List Int → List Int × (Int × Int)
  | _, [], l => (l, (0, 0))
  | k, p :: ps, l => if (passI p l).2 ≠ 0 then ([], ((passI p l).2, (k : Int))) else allI (k + 1) ps (passI p l).1
theorem all_small : ∀ (ps : List PassD) (k : Nat) (l : List Int), l.length ≤ 4000 → (allI k ps l).1.length ≤ 4000 := by
  intro ps
  induction ps with
  | nil => intro k l h; exact h
  | cons p ps ih =>
    intro k l h
    rw [allI]
    split
    · exact Nat.zero_le _
    · exact ih _ _ (pass_small p h)
def AllPost (Y : Nat → Prop) (lo : Nat) (w' : World) (o : List Int × (Int × Int)) (e : Ending) : Prop :=
  ∃ (A : Option Addr) (n c : Nat), e = .returned (.tuple #[.slice A n c, .agg #[.int .i64 o.2.1, .int .i64 o.2.2]]) ∧ RdX w' (fun b => Y b ∨ lo ≤ b) 1 A n (runeCells o.1)
def AlRel (w : World) (Y : Nat → Prop) (s : ScriptD) (l : List Int) (n2 : Nat) (s1 i : Value) (wr : World) : Prop :=
  ∃ (k : Nat) (l' : List Int) (A : Option Addr) (n c : Nat), k ≤ n2 ∧ i = .int .i64 k ∧ s1 = .slice A n c ∧ RdX wr (fun b => Y b ∨ w.heap.size ≤ b) 1 A n (runeCells l') ∧ RdX wr (fun b => (Y b ∨ w.heap.size ≤ b) ∧ b ≠ w.heap.size) 1 A n (runeCells l') ∧ l'.length ≤ 4000 ∧ allI 0 s.passes l = allI k (s.passes.drop k) l' ∧ Blk wr w.heap.size 28 #[.int .i64 0, .int .i64 0] ∧ Below w.heap.size w wr

set_option maxRecDepth 100000 in
set_option maxHeartbeats 3200000 in
theorem chain_all (X Y : Nat → Prop) (s : ScriptD) (b0 : Nat) (A1 A2 A : Option Addr) (n1 n2 c2 n c : Nat) (l : List Int) (w : World) (hs : ScriptAt w X s A1 n1 A2 n2) (h0 : w.cell? ⟨b0, 2, none⟩ = some (.slice A2 n2 c2)) (hb0 : b0 < w.heap.size) (hl4 : l.length ≤ 4000) (hl : RdX w Y 1 A n (runeCells l)) :
    Calls Try.prog 54 #[.pointer (some ⟨b0, 0, none⟩), .slice A n c] w fun e w' => AllPost Y w.heap.size w' (allI 0 s.passes l) e ∧ Below w.heap.size w w' := by
  have hm2 := hs.m2
  have hba := (Below.refl w.heap.size w).alloc (Nat.le_refl _) (.cells #[.int .i64 0, .int .i64 0] 28)
  have d2 : (w.alloc (.cells #[.int .i64 0, .int .i64 0] 28)).cell? ⟨b0, 2, none⟩ = some (.slice A2 n2 c2) := (hba.cell (p := ⟨b0, 2, none⟩) hb0).trans h0
  have HLEN := Lib.hid (show s.passes.length = n2 from hs.pas.len)
  have HS := Lib.hid hs
  have HF0 := Lib.hid (Blk.new w 28 #[.int .i64 0, .int .i64 0])
  have HB0 := Lib.hid hba
  have HL0 := Lib.hid (hl.keep (X' := fun b => Y b ∨ w.heap.size ≤ b) (Keeps.below hba (fun _ h _ => .inl h)))
  have HL1 := Lib.hid (hl.keep (X' := fun b => (Y b ∨ w.heap.size ≤ b) ∧ b ≠ w.heap.size) (Keeps.below hba (fun b h hl => ⟨.inl h, by omega⟩)))
  have HL4 := Lib.hid hl4
  clear hs hba hl h0
  simp only [maxLen] at hm2
  go_enter Try.func54, Try.ntmps54
  go_wp2_with fail
  go_loopw [1, 14] (AlRel w Y s l n2) (fun _ i _ => n2 - (intOf i).toNat)
  case atStart => exact ⟨0, l, A, n, c, Nat.zero_le _, rfl, rfl, HL0.out, HL1.out, HL4.out, rfl, HF0.out, HB0.out⟩
  case round =>
    obtain ⟨k, l', A', n', c', hk, rfl, rfl, hl, hl', hl4', hgo, hf, hb⟩ := hrel
    have hz := hb.size
    have hln := hl.1
    rw [runeCells_length] at hln
    by_cases hlt : k < n2
    · obtain ⟨p, hp⟩ : ∃ z, s.passes[k]? = some z := ⟨_, List.getElem?_eq_getElem (by rw [HLEN.out]; exact hlt)⟩
      obtain ⟨b, off, Ar, nr, cr, rfl, _, hbb, e0, e1, hr, hnr⟩ := pass_at (HS.out.pas.keep (Keeps.any hb) (fun _ _ => PassC.keep (Keeps.any hb))) hp
      rw [drop_at hp, allI] at hgo
      have HGO := Lib.hid hgo
      have hba := (Below.refl wr.heap.size wr).alloc (Nat.le_refl _) (.cells #[.string p.name, .slice Ar nr cr] 104)
      have HF2 := Lib.hid (hf.alloc (.cells #[.string p.name, .slice Ar nr cr] 104))
      have HB2 := Lib.hid (hb.trans (hba.mono hz))
      have HP := Lib.hid (Blk.new wr 104 #[.string p.name, .slice Ar nr cr])
      have HM := Lib.hid (chain_pass X (fun b => (Y b ∨ w.heap.size ≤ b) ∧ b ≠ w.heap.size) p Ar A' nr cr n' c' l' (wr.alloc (.cells #[.string p.name, .slice Ar nr cr] 104)) hnr (hr.keep (Keeps.any hba) (fun _ _ => RuleC.keep (Keeps.any hba))) (by omega) (hl'.keep (Keeps.any hba)))
      have HSM := Lib.hid (pass_small p hl4')
      clear hgo hr hf hb hba hp hl hl'
      go_upto_region 4 with fail
      generalize hW : wr.alloc (.cells #[.string p.name, .slice Ar nr cr] 104) = W at *
      have hwz : wr.heap.size < W.heap.size := HP.out.lt
      clear hW e0 e1
      have p0 : W.cell? ⟨wr.heap.size, 0, none⟩ = some (.string p.name) := HP.out.cell 0
      have p1 : W.cell? ⟨wr.heap.size, 1, none⟩ = some (.slice Ar nr cr) := HP.out.cell 1
      go_wp2_with fail
      refine HM.out.mono ?_
      rintro e w3 ⟨⟨A3, n3, c3, rfl, hr3⟩, hb3⟩
      have hwW := HF2.out.lt
      have HR3 := Lib.hid (hr3.keep (X' := fun b => Y b ∨ w.heap.size ≤ b) (Keeps.refl (fun b h => by rcases h with h | h; exact h.1; exact .inr (by omega))))
      have HR3' := Lib.hid (hr3.keep (X' := fun b => (Y b ∨ w.heap.size ≤ b) ∧ b ≠ w.heap.size) (Keeps.refl (fun b h => by rcases h with h | h; exact h; exact ⟨.inr (by omega), by omega⟩)))
      have HF3 := Lib.hid (Blk.below HF2.out hb3 HF2.out.lt)
      have HB3 := Lib.hid (HB2.out.trans (hb3.mono HB2.out.size))
      have y0 := HF3.out.cell 0
      have y1 := HF3.out.cell 1
      have g0 := HF3.out.frozen 0
      have g1 := HF3.out.frozen 1
      obtain ⟨x, f, hx⟩ : ∃ x f, passI p l' = (x, f) := ⟨_, _, rfl⟩
      rw [hx] at HGO HSM HR3 HR3' ⊢
      dsimp only at HGO HSM HR3 HR3' ⊢
      clear hb3 hr3 p0 p1 HM hx
      by_cases hf0 : f = 0
      · subst hf0
        have HG := Lib.hid (HGO.out.trans (if_neg (fun h => h rfl)))
        go_wp2_with fail
        exact ⟨⟨k + 1, x, A3, n3, c3, by omega, by go_num, rfl, HR3.out, HR3'.out, HSM.out, HG.out, HF3.out, HB3.out⟩, by simp [intOf]; omega⟩
      · have HG := Lib.hid (HGO.out.trans (if_pos hf0))
        go_wp2_with fail
        rw [HG.out]
        exact bodyPost_ret (v := .tuple #[.slice none 0 0, .agg #[.int .i64 f, .int .i64 k]]) (by simp [results, Try.results54, go_sem, y0, y1]) rfl ⟨⟨none, 0, 0, rfl, ⟨rfl, fun h => absurd h (Nat.lt_irrefl 0)⟩⟩, (HB3.out.setCell (by simp) _).setCell (by simp) _⟩
    · obtain rfl : k = n2 := by omega
      rw [List.drop_of_length_le (by rw [HLEN.out]; exact Nat.le_refl _), allI] at hgo
      have HG := Lib.hid hgo
      have y0 := hf.cell 0
      have y1 := hf.cell 1
      have g0 := hf.frozen 0
      have g1 := hf.frozen 1
      have HR := Lib.hid ((hl'.keep (Keeps.setCell (X' := fun b => (Y b ∨ w.heap.size ≤ b) ∧ b ≠ w.heap.size) (p := ⟨w.heap.size, 0, none⟩) (.int .i64 0) (fun b h => h.2) (fun _ h _ => h))).keep (Keeps.setCell (X' := fun b => Y b ∨ w.heap.size ≤ b) (p := ⟨w.heap.size, 1, none⟩) (.int .i64 0) (fun b h => h.2) (fun _ h _ => h.1)))
      have HB := Lib.hid hb
      clear hgo hl hl' hf hb
      go_wp2_with fail
      rw [HG.out]
      exact bodyPost_ret (v := .tuple #[.slice A' n' c', .agg #[.int .i64 0, .int .i64 0]]) (by simp [results, Try.results54, go_sem, y0, y1]) rfl ⟨⟨A', n', c', rfl, HR.out⟩, (HB.out.setCell (by simp) _).setCell (by simp) _⟩

end Go.Proofs.Ytfmebbnccjaadaa
