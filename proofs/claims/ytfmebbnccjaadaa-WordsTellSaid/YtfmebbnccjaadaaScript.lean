/- What is wrong with a script: scriptW. The walks of chain.Wrong and scriptref13.Wrong. -/
import Derived.Test.YtfmebbnccjaadaaMapped
import Derived.Deep.RegionWith
namespace Go.Proofs.Ytfmebbnccjaadaa
open Go.RowKit

theorem blk_drewn {w : World} {g : Nat} {t : TypeId} {cs : Array Value} (h : Blk w g t cs) : Blk w.drew g t cs := h
def isNone (s : ByteArray) : Bool := s.toList == []
def passW (p : PassD) : Int := if isNone p.name = true then (rulesW p.rules).1 else if passB p.name = false then 7 else if 0 < p.rules.length then 8 else 0
def passesGo : Nat → List PassD → Int × Int
  | _, [] => (0, 0)
  | k, p :: l => if passW p ≠ 0 then (passW p, (k : Int)) else passesGo (k + 1) l
def scriptW (s : ScriptD) : Int × Int :=
  if s.only? = true ∧ wrongP s.only ≠ 0 then (wrongP s.only, 0) else if 60 < s.passes.length then (5, 0) else passesGo 0 s.passes
/-- A script's two slices in memory. -/
structure ScriptAt (w : World) (X : Nat → Prop) (s : ScriptD) (A1 : Option Addr) (n1 : Nat) (A2 : Option Addr) (n2 : Nat) : Prop where
  only : RdX w X 2 A1 n1 (spanCells s.only)
  pas : ListX (PassC w X) w X 2 A2 n2 s.passes
  m1 : n1 ≤ maxLen
  m2 : n2 ≤ maxLen
theorem ScriptAt.keep {w w' : World} {X X' : Nat → Prop} {s : ScriptD} {A1 A2 : Option Addr} {n1 n2 : Nat} (hk : Keeps w X w' X') (h : ScriptAt w X s A1 n1 A2 n2) : ScriptAt w' X' s A1 n1 A2 n2 :=
  ⟨h.only.keep hk, h.pas.keep hk (fun _ _ => PassC.keep hk), h.m1, h.m2⟩
theorem pass_at {w : World} {X : Nat → Prop} {A : Option Addr} {n : Nat} {l : List PassD} (h : ListX (PassC w X) w X 2 A n l) {k : Nat} {p : PassD} (hk : l[k]? = some p) :
    ∃ (b off : Nat) (A' : Option Addr) (n' c' : Nat), A = some ⟨b, off, none⟩ ∧ X b ∧ b < w.heap.size ∧ w.cell? ⟨b, off + k * 2, none⟩ = some (.string p.name) ∧ w.cell? ⟨b, off + k * 2 + 1, none⟩ = some (.slice A' n' c') ∧ ListX (RuleC w X) w X 7 A' n' p.rules ∧ n' ≤ maxLen := by
  obtain ⟨b, off, cs, e, hx, hb, ⟨u, rfl, A', n', c', rfl, h1, h2⟩, _, hc⟩ := h.at hk
  have c0 := hc 0 _ rfl
  have c1 := hc 1 _ rfl
  rw [Nat.add_zero] at c0
  exact ⟨b, off, A', n', c', e, hx, hb, c0, c1, h1, h2⟩
theorem fault_field (a b : Int) (w : World) : (Instr.field 28 (.agg #[.int .i64 a, .int .i64 b]) 0).run Try.prog w = .ok (.int .i64 a) w := by kernel_rfl
def SwRel (w : World) (s : ScriptD) (n : Nat) (i : Value) (wr : World) : Prop :=
  ∃ k : Nat, k ≤ n ∧ i = .int .i64 k ∧ passesGo 0 s.passes = passesGo k (s.passes.drop k) ∧ Blk wr (w.heap.size + 1) 28 #[.int .i64 0, .int .i64 0] ∧ Below w.heap.size w wr

set_option maxRecDepth 100000 in
set_option maxHeartbeats 6400000 in
theorem chain_wrong (X : Nat → Prop) (s : ScriptD) (A1 A2 : Option Addr) (n1 c1 n2 c2 : Nat) (w : World) (hs : ScriptAt w X s A1 n1 A2 n2) :
    Calls Try.prog 21 #[.agg #[.bool s.only?, .slice A1 n1 c1, .slice A2 n2 c2]] w fun e w' => e = .returned (.agg #[.int .i64 (scriptW s).1, .int .i64 (scriptW s).2]) ∧ Below w.heap.size w w' := by
  have hm1 := hs.m1
  have hm2 := hs.m2
  have HLEN := Lib.hid (show s.passes.length = n2 from hs.pas.len)
  have HS := Lib.hid hs
  have HX := Lib.hid (Blk.alloc (Blk.new w 51 #[.bool s.only?, .slice A1 n1 c1, .slice A2 n2 c2]) (.cells #[.int .i64 0, .int .i64 0] 28))
  have HF := Lib.hid (show Blk ((w.alloc (.cells #[.bool s.only?, .slice A1 n1 c1, .slice A2 n2 c2] 51)).alloc (.cells #[.int .i64 0, .int .i64 0] 28)) (w.heap.size + 1) 28 #[.int .i64 0, .int .i64 0] by
    have := Blk.new (w.alloc (.cells #[.bool s.only?, .slice A1 n1 c1, .slice A2 n2 c2] 51)) 28 #[.int .i64 0, .int .i64 0]
    simpa using this)
  have HB := Lib.hid (((Below.refl w.heap.size w).alloc (Nat.le_refl _) (.cells #[.bool s.only?, .slice A1 n1 c1, .slice A2 n2 c2] 51)).alloc (by simp) (.cells #[.int .i64 0, .int .i64 0] 28))
  simp only [maxLen] at hm1 hm2
  clear hs
  go_enter Try.func21, Try.ntmps21
  go_upto_region 1 with fail
  generalize (w.alloc (.cells #[.bool s.only?, .slice A1 n1 c1, .slice A2 n2 c2] 51)).alloc (.cells #[.int .i64 0, .int .i64 0] 28) = W0 at *
  have x0 : W0.cell? ⟨w.heap.size, 0, none⟩ = some (.bool s.only?) := HX.out.cell 0
  cases ho : s.only?
  · have HNW := Lib.hid (show scriptW s = if 60 < s.passes.length then (5, 0) else passesGo 0 s.passes by unfold scriptW; rw [if_neg (by rw [ho]; intro h; cases h.1)])
    rw [ho] at x0
    clear ho
    have x2 : W0.cell? ⟨w.heap.size, 2, none⟩ = some (.slice A2 n2 c2) := HX.out.cell 2
    have y0 := HF.out.cell 0
    have y1 := HF.out.cell 1
    have g0 := HF.out.frozen 0
    have g1 := HF.out.frozen 1
    by_cases h60 : 60 < n2
    · have HG := Lib.hid (show scriptW s = (5, 0) by rw [HNW.out, if_pos (by rw [HLEN.out]; exact h60)])
      have hgt : decide ((60 : Int) < (n2 : Int)) = true := decide_eq_true (by omega)
      go_wp2_with fail
      rw [HG.out]
      exact bodyPost_ret (v := .agg #[.int .i64 5, .int .i64 0]) (by simp [results, Try.results21, go_sem, y0, y1]) rfl ⟨rfl, (HB.out.setCell (by simp) _).setCell (by simp) _⟩
    · have HPW := Lib.hid (show scriptW s = passesGo 0 s.passes by rw [HNW.out, if_neg (by rw [HLEN.out]; exact h60)])
      have hgt : decide ((60 : Int) < (n2 : Int)) = false := decide_eq_false (by omega)
      clear HNW y0 y1 g0 g1
      go_wp2_with fail
      go_loopw [24] (SwRel w s n2) (fun i _ => n2 - (intOf i).toNat)
      case atStart => exact ⟨0, Nat.zero_le _, rfl, rfl, HF.out, HB.out⟩
      case round =>
        obtain ⟨k, hk, rfl, hgo, hf, hb⟩ := hrel
        have hz := hb.size
        by_cases hlt : k < n2
        · obtain ⟨p, hp⟩ : ∃ z, s.passes[k]? = some z := ⟨_, List.getElem?_eq_getElem (by rw [HLEN.out]; exact hlt)⟩
          obtain ⟨b, off, A', n', c', rfl, _, hbb, e0, e1, hr, hn'⟩ := pass_at (HS.out.pas.keep (Keeps.any hb) (fun _ _ => PassC.keep (Keeps.any hb))) hp
          rw [drop_at hp, passesGo] at hgo
          have HGO := Lib.hid hgo
          have hba := (Below.refl wr.heap.size wr).alloc (Nat.le_refl _) (.cells #[.string p.name, .slice A' n' c'] 104)
          have HR := Lib.hid (hr.keep (Keeps.any hba) (fun _ _ => RuleC.keep (Keeps.any hba)))
          have HF2 := Lib.hid (hf.alloc (.cells #[.string p.name, .slice A' n' c'] 104))
          have HB2 := Lib.hid (hb.trans (hba.mono hz))
          have HP := Lib.hid (Blk.new wr 104 #[.string p.name, .slice A' n' c'])
          have HPL := Lib.hid (show p.rules.length = n' from hr.len)
          clear hgo hr hf hb hba hp
          go_upto_region 10 with fail
          generalize hW : wr.alloc (.cells #[.string p.name, .slice A' n' c'] 104) = W at *
          have hwz : wr.heap.size < W.heap.size := HP.out.lt
          clear hW e0 e1
          have p0 : W.cell? ⟨wr.heap.size, 0, none⟩ = some (.string p.name) := HP.out.cell 0
          have p1 : W.cell? ⟨wr.heap.size, 1, none⟩ = some (.slice A' n' c') := HP.out.cell 1
          have y0 := HF2.out.cell 0
          have y1 := HF2.out.cell 1
          have g0 := HF2.out.frozen 0
          have g1 := HF2.out.frozen 1
          cases en : isNone p.name
          · have en1 : (p.name.toList == []) = false := en
            have HPB := Lib.hid (show passW p = if passB p.name = false then 7 else if 0 < p.rules.length then 8 else 0 by unfold passW; rw [en]; rfl)
            clear en
            obtain ⟨pb, hpb⟩ : ∃ pb, passB p.name = pb := ⟨_, rfl⟩
            have HPV := Lib.hid hpb
            rw [hpb] at HPB
            clear hpb
            have HB3 := Lib.hid (fun (q : Nat) => below_drewN (HB2.out.alloc HB2.out.size (.cells #[.string nmLower, .string nmNull, .string nmRemove, .string nmUpper] 9)) q)
            have HF3 := Lib.hid (HF2.out.alloc (.cells #[.string nmLower, .string nmNull, .string nmRemove, .string nmUpper] 9))
            have HP3 := Lib.hid (HP.out.alloc (.cells #[.string nmLower, .string nmNull, .string nmRemove, .string nmUpper] 9))
            go_upto_region 13 with fail
            go_region_with (first | (go_at_call 61; refine (rulesyn_passes _).mono ?_; rintro e w' ⟨rfl, rfl⟩) | (go_at_call 60; refine (pass_has _ p.name _ HPV.out _ (blk_drewn (Blk.new _ _ _))).mono ?_; rintro e w' ⟨rfl, rfl⟩))
            all_goals
              have y0 := HF3.out.cell 0
              have y1 := HF3.out.cell 1
              have g0 := HF3.out.frozen 0
              have g1 := HF3.out.frozen 1
              have p0 := HP3.out.cell 0
              have p1 := HP3.out.cell 1
              cases pb
              · have HG := Lib.hid (show scriptW s = (7, (k : Int)) by rw [HPW.out, HGO.out, (show passW p = 7 by rw [HPB.out, if_pos rfl]), if_pos (by decide)])
                go_wp2_with fail
                rw [HG.out]
                exact bodyPost_ret (v := .agg #[.int .i64 7, .int .i64 k]) (by simp [results, Try.results21, go_sem, y0, y1]) rfl ⟨rfl, ((HB3.out _).setCell (by simp) _).setCell (by simp) _⟩
              · by_cases h0 : 0 < n'
                · have HG := Lib.hid (show scriptW s = (8, (k : Int)) by rw [HPW.out, HGO.out, (show passW p = 8 by rw [HPB.out, if_neg (by decide), if_pos (by rw [HPL.out]; exact h0)]), if_pos (by decide)])
                  go_wp2_with fail
                  rw [HG.out]
                  exact bodyPost_ret (v := .agg #[.int .i64 8, .int .i64 k]) (by simp [results, Try.results21, go_sem, y0, y1]) rfl ⟨rfl, ((HB3.out _).setCell (by simp) _).setCell (by simp) _⟩
                · have HZ := Lib.hid (show passW p = 0 by rw [HPB.out, if_neg (by decide), if_neg (by rw [HPL.out]; exact h0)])
                  have HG := Lib.hid (HGO.out.trans (if_neg (fun h => h HZ.out)))
                  obtain rfl : n' = 0 := by omega
                  go_wp2_with fail
                  exact ⟨⟨k + 1, by omega, by go_num, HG.out, blk_drewn HF3.out, HB3.out _⟩, by simp [intOf]; omega⟩
          · have en1 : (p.name.toList == []) = true := en
            have HW := Lib.hid (show passW p = (rulesW p.rules).1 by unfold passW; rw [en]; rfl)
            clear en
            obtain ⟨r1, r2, hR⟩ : ∃ r1 r2, rulesW p.rules = (r1, r2) := ⟨_, _, rfl⟩
            have HRW := Lib.hid (run_wrong X p.rules A' n' c' W hn' HR.out)
            rw [hR] at HRW HW
            dsimp only at HRW HW
            clear hR
            have hfd := fun (W : World) => fault_field r1 r2 W
            go_wp2_with fail
            refine HRW.out.mono ?_
            rintro e w3 ⟨rfl, hb3⟩
            have HF3 := Lib.hid (Blk.below HF2.out hb3 HF2.out.lt)
            have HB3 := Lib.hid (HB2.out.trans (hb3.mono HB2.out.size))
            have y0 := HF3.out.cell 0
            have y1 := HF3.out.cell 1
            have g0 := HF3.out.frozen 0
            have g1 := HF3.out.frozen 1
            clear hb3 p0 p1
            by_cases hz1 : r1 = 0
            · subst hz1
              have HZ := Lib.hid (show passW p = 0 from HW.out)
              have HG := Lib.hid (HGO.out.trans (if_neg (fun h => h HZ.out)))
              go_wp2_with fail
              exact ⟨⟨k + 1, by omega, by go_num, HG.out, HF3.out, HB3.out⟩, by simp [intOf]; omega⟩
            · have HG := Lib.hid (show scriptW s = (r1, (k : Int)) by rw [HPW.out, HGO.out, HW.out, if_pos hz1])
              go_wp2_with fail
              rw [HG.out]
              exact bodyPost_ret (v := .agg #[.int .i64 r1, .int .i64 k]) (by simp [results, Try.results21, go_sem, y0, y1]) rfl ⟨rfl, (HB3.out.setCell (by simp) _).setCell (by simp) _⟩
        · obtain rfl : k = n2 := by omega
          rw [List.drop_of_length_le (by rw [HLEN.out]; exact Nat.le_refl _), passesGo] at hgo
          have HG := Lib.hid (HPW.out.trans hgo)
          have y0 := hf.cell 0
          have y1 := hf.cell 1
          have g0 := hf.frozen 0
          have g1 := hf.frozen 1
          clear hgo hf
          go_wp2_with fail
          rw [HG.out]
          exact bodyPost_ret (v := .agg #[.int .i64 0, .int .i64 0]) (by simp [results, Try.results21, go_sem, y0, y1]) rfl ⟨rfl, (hb.setCell (by simp) _).setCell (by simp) _⟩
  · have x1 : W0.cell? ⟨w.heap.size, 1, none⟩ = some (.slice A1 n1 c1) := HX.out.cell 1
    have HSW := Lib.hid (sets_wrong A1 n1 c1 s.only W0 (by omega) (RdX.of (HS.out.only.keep (Keeps.any HB.out))))
    rw [ho] at x0
    go_wp2_with fail
    refine HSW.out.mono ?_
    rintro e w1 ⟨rfl, hb1⟩
    have HX := Lib.hid (Blk.below HX.out hb1 HX.out.lt)
    have HF := Lib.hid (Blk.below HF.out hb1 HF.out.lt)
    have HB := Lib.hid (HB.out.trans (hb1.mono HB.out.size))
    clear hb1 HSW x0 x1
    by_cases hz : wrongP s.only = 0
    · have HNW := Lib.hid (show scriptW s = if 60 < s.passes.length then (5, 0) else passesGo 0 s.passes by unfold scriptW; rw [if_neg (fun h => h.2 hz)])
      rw [hz]
      clear hz ho
      have x2 : w1.cell? ⟨w.heap.size, 2, none⟩ = some (.slice A2 n2 c2) := HX.out.cell 2
      have y0 := HF.out.cell 0
      have y1 := HF.out.cell 1
      have g0 := HF.out.frozen 0
      have g1 := HF.out.frozen 1
      by_cases h60 : 60 < n2
      · have HG := Lib.hid (show scriptW s = (5, 0) by rw [HNW.out, if_pos (by rw [HLEN.out]; exact h60)])
        have hgt : decide ((60 : Int) < (n2 : Int)) = true := decide_eq_true (by omega)
        go_wp2_with fail
        rw [HG.out]
        exact bodyPost_ret (v := .agg #[.int .i64 5, .int .i64 0]) (by simp [results, Try.results21, go_sem, y0, y1]) rfl ⟨rfl, (HB.out.setCell (by simp) _).setCell (by simp) _⟩
      · have HPW := Lib.hid (show scriptW s = passesGo 0 s.passes by rw [HNW.out, if_neg (by rw [HLEN.out]; exact h60)])
        have hgt : decide ((60 : Int) < (n2 : Int)) = false := decide_eq_false (by omega)
        clear HNW y0 y1 g0 g1
        go_wp2_with fail
        go_loopw [24] (SwRel w s n2) (fun i _ => n2 - (intOf i).toNat)
        case atStart => exact ⟨0, Nat.zero_le _, rfl, rfl, HF.out, HB.out⟩
        case round =>
          obtain ⟨k, hk, rfl, hgo, hf, hb⟩ := hrel
          have hz := hb.size
          by_cases hlt : k < n2
          · obtain ⟨p, hp⟩ : ∃ z, s.passes[k]? = some z := ⟨_, List.getElem?_eq_getElem (by rw [HLEN.out]; exact hlt)⟩
            obtain ⟨b, off, A', n', c', rfl, _, hbb, e0, e1, hr, hn'⟩ := pass_at (HS.out.pas.keep (Keeps.any hb) (fun _ _ => PassC.keep (Keeps.any hb))) hp
            rw [drop_at hp, passesGo] at hgo
            have HGO := Lib.hid hgo
            have hba := (Below.refl wr.heap.size wr).alloc (Nat.le_refl _) (.cells #[.string p.name, .slice A' n' c'] 104)
            have HR := Lib.hid (hr.keep (Keeps.any hba) (fun _ _ => RuleC.keep (Keeps.any hba)))
            have HF2 := Lib.hid (hf.alloc (.cells #[.string p.name, .slice A' n' c'] 104))
            have HB2 := Lib.hid (hb.trans (hba.mono hz))
            have HP := Lib.hid (Blk.new wr 104 #[.string p.name, .slice A' n' c'])
            have HPL := Lib.hid (show p.rules.length = n' from hr.len)
            clear hgo hr hf hb hba hp
            go_upto_region 10 with fail
            generalize hW : wr.alloc (.cells #[.string p.name, .slice A' n' c'] 104) = W at *
            have hwz : wr.heap.size < W.heap.size := HP.out.lt
            clear hW e0 e1
            have p0 : W.cell? ⟨wr.heap.size, 0, none⟩ = some (.string p.name) := HP.out.cell 0
            have p1 : W.cell? ⟨wr.heap.size, 1, none⟩ = some (.slice A' n' c') := HP.out.cell 1
            have y0 := HF2.out.cell 0
            have y1 := HF2.out.cell 1
            have g0 := HF2.out.frozen 0
            have g1 := HF2.out.frozen 1
            cases en : isNone p.name
            · have en1 : (p.name.toList == []) = false := en
              have HPB := Lib.hid (show passW p = if passB p.name = false then 7 else if 0 < p.rules.length then 8 else 0 by unfold passW; rw [en]; rfl)
              clear en
              obtain ⟨pb, hpb⟩ : ∃ pb, passB p.name = pb := ⟨_, rfl⟩
              have HPV := Lib.hid hpb
              rw [hpb] at HPB
              clear hpb
              have HB3 := Lib.hid (fun (q : Nat) => below_drewN (HB2.out.alloc HB2.out.size (.cells #[.string nmLower, .string nmNull, .string nmRemove, .string nmUpper] 9)) q)
              have HF3 := Lib.hid (HF2.out.alloc (.cells #[.string nmLower, .string nmNull, .string nmRemove, .string nmUpper] 9))
              have HP3 := Lib.hid (HP.out.alloc (.cells #[.string nmLower, .string nmNull, .string nmRemove, .string nmUpper] 9))
              go_upto_region 13 with fail
              go_region_with (first | (go_at_call 61; refine (rulesyn_passes _).mono ?_; rintro e w' ⟨rfl, rfl⟩) | (go_at_call 60; refine (pass_has _ p.name _ HPV.out _ (blk_drewn (Blk.new _ _ _))).mono ?_; rintro e w' ⟨rfl, rfl⟩))
              all_goals
                have y0 := HF3.out.cell 0
                have y1 := HF3.out.cell 1
                have g0 := HF3.out.frozen 0
                have g1 := HF3.out.frozen 1
                have p0 := HP3.out.cell 0
                have p1 := HP3.out.cell 1
                cases pb
                · have HG := Lib.hid (show scriptW s = (7, (k : Int)) by rw [HPW.out, HGO.out, (show passW p = 7 by rw [HPB.out, if_pos rfl]), if_pos (by decide)])
                  go_wp2_with fail
                  rw [HG.out]
                  exact bodyPost_ret (v := .agg #[.int .i64 7, .int .i64 k]) (by simp [results, Try.results21, go_sem, y0, y1]) rfl ⟨rfl, ((HB3.out _).setCell (by simp) _).setCell (by simp) _⟩
                · by_cases h0 : 0 < n'
                  · have HG := Lib.hid (show scriptW s = (8, (k : Int)) by rw [HPW.out, HGO.out, (show passW p = 8 by rw [HPB.out, if_neg (by decide), if_pos (by rw [HPL.out]; exact h0)]), if_pos (by decide)])
                    go_wp2_with fail
                    rw [HG.out]
                    exact bodyPost_ret (v := .agg #[.int .i64 8, .int .i64 k]) (by simp [results, Try.results21, go_sem, y0, y1]) rfl ⟨rfl, ((HB3.out _).setCell (by simp) _).setCell (by simp) _⟩
                  · have HZ := Lib.hid (show passW p = 0 by rw [HPB.out, if_neg (by decide), if_neg (by rw [HPL.out]; exact h0)])
                    have HG := Lib.hid (HGO.out.trans (if_neg (fun h => h HZ.out)))
                    obtain rfl : n' = 0 := by omega
                    go_wp2_with fail
                    exact ⟨⟨k + 1, by omega, by go_num, HG.out, blk_drewn HF3.out, HB3.out _⟩, by simp [intOf]; omega⟩
            · have en1 : (p.name.toList == []) = true := en
              have HW := Lib.hid (show passW p = (rulesW p.rules).1 by unfold passW; rw [en]; rfl)
              clear en
              obtain ⟨r1, r2, hR⟩ : ∃ r1 r2, rulesW p.rules = (r1, r2) := ⟨_, _, rfl⟩
              have HRW := Lib.hid (run_wrong X p.rules A' n' c' W hn' HR.out)
              rw [hR] at HRW HW
              dsimp only at HRW HW
              clear hR
              have hfd := fun (W : World) => fault_field r1 r2 W
              go_wp2_with fail
              refine HRW.out.mono ?_
              rintro e w3 ⟨rfl, hb3⟩
              have HF3 := Lib.hid (Blk.below HF2.out hb3 HF2.out.lt)
              have HB3 := Lib.hid (HB2.out.trans (hb3.mono HB2.out.size))
              have y0 := HF3.out.cell 0
              have y1 := HF3.out.cell 1
              have g0 := HF3.out.frozen 0
              have g1 := HF3.out.frozen 1
              clear hb3 p0 p1
              by_cases hz1 : r1 = 0
              · subst hz1
                have HZ := Lib.hid (show passW p = 0 from HW.out)
                have HG := Lib.hid (HGO.out.trans (if_neg (fun h => h HZ.out)))
                go_wp2_with fail
                exact ⟨⟨k + 1, by omega, by go_num, HG.out, HF3.out, HB3.out⟩, by simp [intOf]; omega⟩
              · have HG := Lib.hid (show scriptW s = (r1, (k : Int)) by rw [HPW.out, HGO.out, HW.out, if_pos hz1])
                go_wp2_with fail
                rw [HG.out]
                exact bodyPost_ret (v := .agg #[.int .i64 r1, .int .i64 k]) (by simp [results, Try.results21, go_sem, y0, y1]) rfl ⟨rfl, (HB3.out.setCell (by simp) _).setCell (by simp) _⟩
          · obtain rfl : k = n2 := by omega
            rw [List.drop_of_length_le (by rw [HLEN.out]; exact Nat.le_refl _), passesGo] at hgo
            have HG := Lib.hid (HPW.out.trans hgo)
            have y0 := hf.cell 0
            have y1 := hf.cell 1
            have g0 := hf.frozen 0
            have g1 := hf.frozen 1
            clear hgo hf
            go_wp2_with fail
            rw [HG.out]
            exact bodyPost_ret (v := .agg #[.int .i64 0, .int .i64 0]) (by simp [results, Try.results21, go_sem, y0, y1]) rfl ⟨rfl, (hb.setCell (by simp) _).setCell (by simp) _⟩
    · have HG := Lib.hid (show scriptW s = (wrongP s.only, 0) by unfold scriptW; rw [if_pos ⟨ho, hz⟩])
      have y0 := HF.out.cell 0
      have y1 := HF.out.cell 1
      have g0 := HF.out.frozen 0
      have g1 := HF.out.frozen 1
      generalize wrongP s.only = wp at *
      go_wp2_with fail
      rw [HG.out]
      exact bodyPost_ret (v := .agg #[.int .i64 wp, .int .i64 0]) (by simp [results, Try.results21, go_sem, y0, y1]) rfl ⟨rfl, (HB.out.setCell (by simp) _).setCell (by simp) _⟩

set_option maxRecDepth 100000 in
set_option maxHeartbeats 6400000 in
theorem ref13_wrong (X : Nat → Prop) (s : ScriptD) (A1 A2 : Option Addr) (n1 c1 n2 c2 : Nat) (w : World) (hs : ScriptAt w X s A1 n1 A2 n2) :
    Calls Try.prog 22 #[.agg #[.bool s.only?, .slice A1 n1 c1, .slice A2 n2 c2]] w fun e w' => e = .returned (.agg #[.int .i64 (scriptW s).1, .int .i64 (scriptW s).2]) ∧ Below w.heap.size w w' := by
  have hm1 := hs.m1
  have hm2 := hs.m2
  have HLEN := Lib.hid (show s.passes.length = n2 from hs.pas.len)
  have HS := Lib.hid hs
  have HX := Lib.hid (Blk.alloc (Blk.new w 51 #[.bool s.only?, .slice A1 n1 c1, .slice A2 n2 c2]) (.cells #[.int .i64 0, .int .i64 0] 28))
  have HF := Lib.hid (show Blk ((w.alloc (.cells #[.bool s.only?, .slice A1 n1 c1, .slice A2 n2 c2] 51)).alloc (.cells #[.int .i64 0, .int .i64 0] 28)) (w.heap.size + 1) 28 #[.int .i64 0, .int .i64 0] by
    have := Blk.new (w.alloc (.cells #[.bool s.only?, .slice A1 n1 c1, .slice A2 n2 c2] 51)) 28 #[.int .i64 0, .int .i64 0]
    simpa using this)
  have HB := Lib.hid (((Below.refl w.heap.size w).alloc (Nat.le_refl _) (.cells #[.bool s.only?, .slice A1 n1 c1, .slice A2 n2 c2] 51)).alloc (by simp) (.cells #[.int .i64 0, .int .i64 0] 28))
  simp only [maxLen] at hm1 hm2
  clear hs
  go_enter Try.func22, Try.ntmps22
  go_upto_region 1 with fail
  generalize (w.alloc (.cells #[.bool s.only?, .slice A1 n1 c1, .slice A2 n2 c2] 51)).alloc (.cells #[.int .i64 0, .int .i64 0] 28) = W0 at *
  have x0 : W0.cell? ⟨w.heap.size, 0, none⟩ = some (.bool s.only?) := HX.out.cell 0
  cases ho : s.only?
  · have HNW := Lib.hid (show scriptW s = if 60 < s.passes.length then (5, 0) else passesGo 0 s.passes by unfold scriptW; rw [if_neg (by rw [ho]; intro h; cases h.1)])
    rw [ho] at x0
    clear ho
    have x2 : W0.cell? ⟨w.heap.size, 2, none⟩ = some (.slice A2 n2 c2) := HX.out.cell 2
    have y0 := HF.out.cell 0
    have y1 := HF.out.cell 1
    have g0 := HF.out.frozen 0
    have g1 := HF.out.frozen 1
    by_cases h60 : 60 < n2
    · have HG := Lib.hid (show scriptW s = (5, 0) by rw [HNW.out, if_pos (by rw [HLEN.out]; exact h60)])
      have hgt : decide ((60 : Int) < (n2 : Int)) = true := decide_eq_true (by omega)
      go_wp2_with fail
      rw [HG.out]
      exact bodyPost_ret (v := .agg #[.int .i64 5, .int .i64 0]) (by simp [results, Try.results22, go_sem, y0, y1]) rfl ⟨rfl, (HB.out.setCell (by simp) _).setCell (by simp) _⟩
    · have HPW := Lib.hid (show scriptW s = passesGo 0 s.passes by rw [HNW.out, if_neg (by rw [HLEN.out]; exact h60)])
      have hgt : decide ((60 : Int) < (n2 : Int)) = false := decide_eq_false (by omega)
      clear HNW y0 y1 g0 g1
      go_wp2_with fail
      go_loopw [24] (SwRel w s n2) (fun i _ => n2 - (intOf i).toNat)
      case atStart => exact ⟨0, Nat.zero_le _, rfl, rfl, HF.out, HB.out⟩
      case round =>
        obtain ⟨k, hk, rfl, hgo, hf, hb⟩ := hrel
        have hz := hb.size
        by_cases hlt : k < n2
        · obtain ⟨p, hp⟩ : ∃ z, s.passes[k]? = some z := ⟨_, List.getElem?_eq_getElem (by rw [HLEN.out]; exact hlt)⟩
          obtain ⟨b, off, A', n', c', rfl, _, hbb, e0, e1, hr, hn'⟩ := pass_at (HS.out.pas.keep (Keeps.any hb) (fun _ _ => PassC.keep (Keeps.any hb))) hp
          rw [drop_at hp, passesGo] at hgo
          have HGO := Lib.hid hgo
          have hba := (Below.refl wr.heap.size wr).alloc (Nat.le_refl _) (.cells #[.string p.name, .slice A' n' c'] 104)
          have HR := Lib.hid (hr.keep (Keeps.any hba) (fun _ _ => RuleC.keep (Keeps.any hba)))
          have HF2 := Lib.hid (hf.alloc (.cells #[.string p.name, .slice A' n' c'] 104))
          have HB2 := Lib.hid (hb.trans (hba.mono hz))
          have HP := Lib.hid (Blk.new wr 104 #[.string p.name, .slice A' n' c'])
          have HPL := Lib.hid (show p.rules.length = n' from hr.len)
          clear hgo hr hf hb hba hp
          go_upto_region 10 with fail
          generalize hW : wr.alloc (.cells #[.string p.name, .slice A' n' c'] 104) = W at *
          have hwz : wr.heap.size < W.heap.size := HP.out.lt
          clear hW e0 e1
          have p0 : W.cell? ⟨wr.heap.size, 0, none⟩ = some (.string p.name) := HP.out.cell 0
          have p1 : W.cell? ⟨wr.heap.size, 1, none⟩ = some (.slice A' n' c') := HP.out.cell 1
          have y0 := HF2.out.cell 0
          have y1 := HF2.out.cell 1
          have g0 := HF2.out.frozen 0
          have g1 := HF2.out.frozen 1
          cases en : isNone p.name
          · have en1 : (p.name.toList == []) = false := en
            have HPB := Lib.hid (show passW p = if passB p.name = false then 7 else if 0 < p.rules.length then 8 else 0 by unfold passW; rw [en]; rfl)
            clear en
            have HRP := Lib.hid (ref_pass p.name W)
            obtain ⟨pb, hpb⟩ : ∃ pb, passB p.name = pb := ⟨_, rfl⟩
            rw [hpb] at HPB HRP
            clear hpb
            go_wp2_with fail
            refine HRP.out.mono ?_
            rintro e w3 ⟨rfl, rfl⟩
            cases pb
            · have HG := Lib.hid (show scriptW s = (7, (k : Int)) by rw [HPW.out, HGO.out, (show passW p = 7 by rw [HPB.out, if_pos rfl]), if_pos (by decide)])
              go_wp2_with fail
              rw [HG.out]
              exact bodyPost_ret (v := .agg #[.int .i64 7, .int .i64 k]) (by simp [results, Try.results22, go_sem, y0, y1]) rfl ⟨rfl, (HB2.out.setCell (by simp) _).setCell (by simp) _⟩
            · by_cases h0 : 0 < n'
              · have HG := Lib.hid (show scriptW s = (8, (k : Int)) by rw [HPW.out, HGO.out, (show passW p = 8 by rw [HPB.out, if_neg (by decide), if_pos (by rw [HPL.out]; exact h0)]), if_pos (by decide)])
                go_wp2_with fail
                rw [HG.out]
                exact bodyPost_ret (v := .agg #[.int .i64 8, .int .i64 k]) (by simp [results, Try.results22, go_sem, y0, y1]) rfl ⟨rfl, (HB2.out.setCell (by simp) _).setCell (by simp) _⟩
              · have HZ := Lib.hid (show passW p = 0 by rw [HPB.out, if_neg (by decide), if_neg (by rw [HPL.out]; exact h0)])
                have HG := Lib.hid (HGO.out.trans (if_neg (fun h => h HZ.out)))
                obtain rfl : n' = 0 := by omega
                go_wp2_with fail
                exact ⟨⟨k + 1, by omega, by go_num, HG.out, HF2.out, HB2.out⟩, by simp [intOf]; omega⟩
          · have en1 : (p.name.toList == []) = true := en
            have HW := Lib.hid (show passW p = (rulesW p.rules).1 by unfold passW; rw [en]; rfl)
            clear en
            obtain ⟨r1, r2, hR⟩ : ∃ r1 r2, rulesW p.rules = (r1, r2) := ⟨_, _, rfl⟩
            have HRW := Lib.hid (ref8_wrong X p.rules A' n' c' W hn' HR.out)
            rw [hR] at HRW HW
            dsimp only at HRW HW
            clear hR
            have hfd := fun (W : World) => fault_field r1 r2 W
            go_wp2_with fail
            refine HRW.out.mono ?_
            rintro e w3 ⟨rfl, hb3⟩
            have HF3 := Lib.hid (Blk.alloc (Blk.below HF2.out hb3 HF2.out.lt) (.cells #[.int .i64 r1, .int .i64 r2] 28))
            have hb3x := HB2.out.trans (hb3.mono HB2.out.size)
            have HB3 := Lib.hid (hb3x.alloc hb3x.size (.cells #[.int .i64 r1, .int .i64 r2] 28))
            have y0 := HF3.out.cell 0
            have y1 := HF3.out.cell 1
            have g0 := HF3.out.frozen 0
            have g1 := HF3.out.frozen 1
            clear hb3 p0 p1
            by_cases hz1 : r1 = 0
            · subst hz1
              have HZ := Lib.hid (show passW p = 0 from HW.out)
              have HG := Lib.hid (HGO.out.trans (if_neg (fun h => h HZ.out)))
              go_wp2_with fail
              exact ⟨⟨k + 1, by omega, by go_num, HG.out, HF3.out, HB3.out⟩, by simp [intOf]; omega⟩
            · have HG := Lib.hid (show scriptW s = (r1, (k : Int)) by rw [HPW.out, HGO.out, HW.out, if_pos hz1])
              go_wp2_with fail
              rw [HG.out]
              exact bodyPost_ret (v := .agg #[.int .i64 r1, .int .i64 k]) (by simp [results, Try.results22, go_sem, y0, y1]) rfl ⟨rfl, (HB3.out.setCell (by simp) _).setCell (by simp) _⟩
        · obtain rfl : k = n2 := by omega
          rw [List.drop_of_length_le (by rw [HLEN.out]; exact Nat.le_refl _), passesGo] at hgo
          have HG := Lib.hid (HPW.out.trans hgo)
          have y0 := hf.cell 0
          have y1 := hf.cell 1
          have g0 := hf.frozen 0
          have g1 := hf.frozen 1
          clear hgo hf
          go_wp2_with fail
          rw [HG.out]
          exact bodyPost_ret (v := .agg #[.int .i64 0, .int .i64 0]) (by simp [results, Try.results22, go_sem, y0, y1]) rfl ⟨rfl, (hb.setCell (by simp) _).setCell (by simp) _⟩
  · have x1 : W0.cell? ⟨w.heap.size, 1, none⟩ = some (.slice A1 n1 c1) := HX.out.cell 1
    have HSW := Lib.hid (ref2_wrong A1 n1 c1 s.only W0 (by omega) (RdX.of (HS.out.only.keep (Keeps.any HB.out))))
    rw [ho] at x0
    go_wp2_with fail
    refine HSW.out.mono ?_
    rintro e w1 ⟨rfl, hb1⟩
    have HX := Lib.hid (Blk.below HX.out hb1 HX.out.lt)
    have HF := Lib.hid (Blk.below HF.out hb1 HF.out.lt)
    have HB := Lib.hid (HB.out.trans (hb1.mono HB.out.size))
    clear hb1 HSW x0 x1
    by_cases hz : wrongP s.only = 0
    · have HNW := Lib.hid (show scriptW s = if 60 < s.passes.length then (5, 0) else passesGo 0 s.passes by unfold scriptW; rw [if_neg (fun h => h.2 hz)])
      rw [hz]
      clear hz ho
      have x2 : w1.cell? ⟨w.heap.size, 2, none⟩ = some (.slice A2 n2 c2) := HX.out.cell 2
      have y0 := HF.out.cell 0
      have y1 := HF.out.cell 1
      have g0 := HF.out.frozen 0
      have g1 := HF.out.frozen 1
      by_cases h60 : 60 < n2
      · have HG := Lib.hid (show scriptW s = (5, 0) by rw [HNW.out, if_pos (by rw [HLEN.out]; exact h60)])
        have hgt : decide ((60 : Int) < (n2 : Int)) = true := decide_eq_true (by omega)
        go_wp2_with fail
        rw [HG.out]
        exact bodyPost_ret (v := .agg #[.int .i64 5, .int .i64 0]) (by simp [results, Try.results22, go_sem, y0, y1]) rfl ⟨rfl, (HB.out.setCell (by simp) _).setCell (by simp) _⟩
      · have HPW := Lib.hid (show scriptW s = passesGo 0 s.passes by rw [HNW.out, if_neg (by rw [HLEN.out]; exact h60)])
        have hgt : decide ((60 : Int) < (n2 : Int)) = false := decide_eq_false (by omega)
        clear HNW y0 y1 g0 g1
        go_wp2_with fail
        go_loopw [24] (SwRel w s n2) (fun i _ => n2 - (intOf i).toNat)
        case atStart => exact ⟨0, Nat.zero_le _, rfl, rfl, HF.out, HB.out⟩
        case round =>
          obtain ⟨k, hk, rfl, hgo, hf, hb⟩ := hrel
          have hz := hb.size
          by_cases hlt : k < n2
          · obtain ⟨p, hp⟩ : ∃ z, s.passes[k]? = some z := ⟨_, List.getElem?_eq_getElem (by rw [HLEN.out]; exact hlt)⟩
            obtain ⟨b, off, A', n', c', rfl, _, hbb, e0, e1, hr, hn'⟩ := pass_at (HS.out.pas.keep (Keeps.any hb) (fun _ _ => PassC.keep (Keeps.any hb))) hp
            rw [drop_at hp, passesGo] at hgo
            have HGO := Lib.hid hgo
            have hba := (Below.refl wr.heap.size wr).alloc (Nat.le_refl _) (.cells #[.string p.name, .slice A' n' c'] 104)
            have HR := Lib.hid (hr.keep (Keeps.any hba) (fun _ _ => RuleC.keep (Keeps.any hba)))
            have HF2 := Lib.hid (hf.alloc (.cells #[.string p.name, .slice A' n' c'] 104))
            have HB2 := Lib.hid (hb.trans (hba.mono hz))
            have HP := Lib.hid (Blk.new wr 104 #[.string p.name, .slice A' n' c'])
            have HPL := Lib.hid (show p.rules.length = n' from hr.len)
            clear hgo hr hf hb hba hp
            go_upto_region 10 with fail
            generalize hW : wr.alloc (.cells #[.string p.name, .slice A' n' c'] 104) = W at *
            have hwz : wr.heap.size < W.heap.size := HP.out.lt
            clear hW e0 e1
            have p0 : W.cell? ⟨wr.heap.size, 0, none⟩ = some (.string p.name) := HP.out.cell 0
            have p1 : W.cell? ⟨wr.heap.size, 1, none⟩ = some (.slice A' n' c') := HP.out.cell 1
            have y0 := HF2.out.cell 0
            have y1 := HF2.out.cell 1
            have g0 := HF2.out.frozen 0
            have g1 := HF2.out.frozen 1
            cases en : isNone p.name
            · have en1 : (p.name.toList == []) = false := en
              have HPB := Lib.hid (show passW p = if passB p.name = false then 7 else if 0 < p.rules.length then 8 else 0 by unfold passW; rw [en]; rfl)
              clear en
              have HRP := Lib.hid (ref_pass p.name W)
              obtain ⟨pb, hpb⟩ : ∃ pb, passB p.name = pb := ⟨_, rfl⟩
              rw [hpb] at HPB HRP
              clear hpb
              go_wp2_with fail
              refine HRP.out.mono ?_
              rintro e w3 ⟨rfl, rfl⟩
              cases pb
              · have HG := Lib.hid (show scriptW s = (7, (k : Int)) by rw [HPW.out, HGO.out, (show passW p = 7 by rw [HPB.out, if_pos rfl]), if_pos (by decide)])
                go_wp2_with fail
                rw [HG.out]
                exact bodyPost_ret (v := .agg #[.int .i64 7, .int .i64 k]) (by simp [results, Try.results22, go_sem, y0, y1]) rfl ⟨rfl, (HB2.out.setCell (by simp) _).setCell (by simp) _⟩
              · by_cases h0 : 0 < n'
                · have HG := Lib.hid (show scriptW s = (8, (k : Int)) by rw [HPW.out, HGO.out, (show passW p = 8 by rw [HPB.out, if_neg (by decide), if_pos (by rw [HPL.out]; exact h0)]), if_pos (by decide)])
                  go_wp2_with fail
                  rw [HG.out]
                  exact bodyPost_ret (v := .agg #[.int .i64 8, .int .i64 k]) (by simp [results, Try.results22, go_sem, y0, y1]) rfl ⟨rfl, (HB2.out.setCell (by simp) _).setCell (by simp) _⟩
                · have HZ := Lib.hid (show passW p = 0 by rw [HPB.out, if_neg (by decide), if_neg (by rw [HPL.out]; exact h0)])
                  have HG := Lib.hid (HGO.out.trans (if_neg (fun h => h HZ.out)))
                  obtain rfl : n' = 0 := by omega
                  go_wp2_with fail
                  exact ⟨⟨k + 1, by omega, by go_num, HG.out, HF2.out, HB2.out⟩, by simp [intOf]; omega⟩
            · have en1 : (p.name.toList == []) = true := en
              have HW := Lib.hid (show passW p = (rulesW p.rules).1 by unfold passW; rw [en]; rfl)
              clear en
              obtain ⟨r1, r2, hR⟩ : ∃ r1 r2, rulesW p.rules = (r1, r2) := ⟨_, _, rfl⟩
              have HRW := Lib.hid (ref8_wrong X p.rules A' n' c' W hn' HR.out)
              rw [hR] at HRW HW
              dsimp only at HRW HW
              clear hR
              have hfd := fun (W : World) => fault_field r1 r2 W
              go_wp2_with fail
              refine HRW.out.mono ?_
              rintro e w3 ⟨rfl, hb3⟩
              have HF3 := Lib.hid (Blk.alloc (Blk.below HF2.out hb3 HF2.out.lt) (.cells #[.int .i64 r1, .int .i64 r2] 28))
              have hb3x := HB2.out.trans (hb3.mono HB2.out.size)
              have HB3 := Lib.hid (hb3x.alloc hb3x.size (.cells #[.int .i64 r1, .int .i64 r2] 28))
              have y0 := HF3.out.cell 0
              have y1 := HF3.out.cell 1
              have g0 := HF3.out.frozen 0
              have g1 := HF3.out.frozen 1
              clear hb3 p0 p1
              by_cases hz1 : r1 = 0
              · subst hz1
                have HZ := Lib.hid (show passW p = 0 from HW.out)
                have HG := Lib.hid (HGO.out.trans (if_neg (fun h => h HZ.out)))
                go_wp2_with fail
                exact ⟨⟨k + 1, by omega, by go_num, HG.out, HF3.out, HB3.out⟩, by simp [intOf]; omega⟩
              · have HG := Lib.hid (show scriptW s = (r1, (k : Int)) by rw [HPW.out, HGO.out, HW.out, if_pos hz1])
                go_wp2_with fail
                rw [HG.out]
                exact bodyPost_ret (v := .agg #[.int .i64 r1, .int .i64 k]) (by simp [results, Try.results22, go_sem, y0, y1]) rfl ⟨rfl, (HB3.out.setCell (by simp) _).setCell (by simp) _⟩
          · obtain rfl : k = n2 := by omega
            rw [List.drop_of_length_le (by rw [HLEN.out]; exact Nat.le_refl _), passesGo] at hgo
            have HG := Lib.hid (HPW.out.trans hgo)
            have y0 := hf.cell 0
            have y1 := hf.cell 1
            have g0 := hf.frozen 0
            have g1 := hf.frozen 1
            clear hgo hf
            go_wp2_with fail
            rw [HG.out]
            exact bodyPost_ret (v := .agg #[.int .i64 0, .int .i64 0]) (by simp [results, Try.results22, go_sem, y0, y1]) rfl ⟨rfl, (hb.setCell (by simp) _).setCell (by simp) _⟩
    · have HG := Lib.hid (show scriptW s = (wrongP s.only, 0) by unfold scriptW; rw [if_pos ⟨ho, hz⟩])
      have y0 := HF.out.cell 0
      have y1 := HF.out.cell 1
      have g0 := HF.out.frozen 0
      have g1 := HF.out.frozen 1
      generalize wrongP s.only = wp at *
      go_wp2_with fail
      rw [HG.out]
      exact bodyPost_ret (v := .agg #[.int .i64 wp, .int .i64 0]) (by simp [results, Try.results22, go_sem, y0, y1]) rfl ⟨rfl, (HB.out.setCell (by simp) _).setCell (by simp) _⟩

end Go.Proofs.Ytfmebbnccjaadaa
