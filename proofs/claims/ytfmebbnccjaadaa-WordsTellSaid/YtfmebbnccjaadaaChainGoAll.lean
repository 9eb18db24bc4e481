/- What a script makes of a text, plain: goC rune by rune, goI. The walk of slices.Clone at runes. -/
import Derived.Test.YtfmebbnccjaadaaChainAll
import Derived.Test.YtfmebbnccjaadaaRefRunAll
import Derived.Deep.RegionWith
import Derived.BigRegion
namespace Go.Proofs.Ytfmebbnccjaadaa
open Go.RowKit

def meant (s : ScriptD) (x : Int) : Bool := !s.only? || hasP s.only x
def flushI (s : ScriptD) (pc out : List Int) : List Int × (Int × Int) :=
  if pc = [] then (out, (0, 0)) else if (allI 0 s.passes pc).2.1 ≠ 0 then ([], (allI 0 s.passes pc).2) else (out ++ (allI 0 s.passes pc).1, (0, 0))
def goC (s : ScriptD) : List Int → List Int → List Int → List Int × (Int × Int)
  | [], pc, out => flushI s pc out
  | x :: t, pc, out => if meant s x = true then goC s t (pc ++ [x]) out else if (flushI s pc out).2.1 ≠ 0 then ([], (flushI s pc out).2) else goC s t [] ((flushI s pc out).1 ++ [x])
def goI (s : ScriptD) (t : List Int) : List Int × (Int × Int) :=
  if (scriptW s).1 ≠ 0 then ([], scriptW s) else if textP t ≠ 0 then ([], (textP t, 0)) else if (goC s t [] []).2.1 ≠ 0 then ([], (goC s t [] []).2) else if 4000 < (goC s t [] []).1.length then ([], (4, (s.passes.length : Int))) else ((goC s t [] []).1, (0, 0))
theorem goC_in {s : ScriptD} {x : Int} {t pc out : List Int} (h : meant s x = true) : goC s (x :: t) pc out = goC s t (pc ++ [x]) out := by rw [goC, if_pos h]
theorem flush_nil (s : ScriptD) (out : List Int) : flushI s [] out = (out, (0, 0)) := by rw [flushI, if_pos rfl]
theorem flush_ok {s : ScriptD} {pc out x : List Int} {f : Int} (hp : pc ≠ []) (h : allI 0 s.passes pc = (x, (0, f))) : flushI s pc out = (out ++ x, (0, 0)) := by
  rw [flushI, if_neg hp, h, if_neg (fun h => h rfl)]
theorem flush_bad {s : ScriptD} {pc out x : List Int} {e f : Int} (hp : pc ≠ []) (h : allI 0 s.passes pc = (x, (e, f))) (he : e ≠ 0) : flushI s pc out = ([], (e, f)) := by
  rw [flushI, if_neg hp, h, if_pos he]
theorem goC_out {s : ScriptD} {x : Int} {t pc out o2 : List Int} (h : meant s x = false) (hf : flushI s pc out = (o2, (0, 0))) : goC s (x :: t) pc out = goC s t [] (o2 ++ [x]) := by
  rw [goC, if_neg (by rw [h]; decide), hf, if_neg (fun h => h rfl)]
theorem goC_bad {s : ScriptD} {t pc out : List Int} {e f : Int} (h : ∀ x t', t = x :: t' → meant s x = false) (hf : flushI s pc out = ([], (e, f))) (he : e ≠ 0) : goC s t pc out = ([], (e, f)) := by
  cases t with
  | nil => exact hf
  | cons x t => rw [goC, if_neg (by rw [h x t rfl]; decide), hf, if_pos he]
theorem script_right {s : ScriptD} (h : (scriptW s).1 = 0) (ho : s.only? = true) : RightSet s.only := by
  unfold scriptW at h
  by_cases hz : wrongP s.only = 0
  · exact right_set hz
  · rw [if_pos ⟨ho, hz⟩] at h
    exact absurd h hz

set_option maxRecDepth 100000 in
set_option maxHeartbeats 1600000 in
theorem clone_runes (b o n c : Nat) (l : List Int) (w : World) (hn : n ≤ 1000000) (hl : RdR w w.heap.size (some ⟨b, o, none⟩) n l) :
    Calls Try.prog 55 #[.slice (some ⟨b, o, none⟩) n c] w fun e w' => (∃ v, e = .returned v ∧ w'.ownsRow w.heap.size 21 1 v n (runeCells l)) ∧ Below w.heap.size w w' := by
  obtain ⟨i0, hi, z0, z1, z2⟩ := info_parts Try.info21
  have hba := (Below.refl w.heap.size w).alloc (Nat.le_refl _) (.cells #[] 21)
  have HBA := Lib.hid hba
  have HOE := Lib.hid (own_empty w 21 1 w.heap.size w.heap.size rfl (Nat.le_refl _))
  have HL := Lib.hid (Rd.below hl hba)
  have hnil : ∀ W : World, (binOp .eql 23 (.slice (some ⟨b, o, none⟩) n c) (.slice none 0 0)).run Try.prog W = .ok (.bool false) W := fun _ => by kernel_rfl
  clear hba hl
  go_enter Try.func55, Try.ntmps55
  go_wp2_with (at_builtin; refine wpList_append_rd _ rfl (.tmp 5) (.tmp 6) 23 rfl w.heap.size 21 i0 _ 1 4 Try.underlying23 hi z0 z1 z2 rfl (by decide) _ _ _ rfl HOE.out _ (some ⟨b, o, none⟩) n c (runeCells l) rfl HL.out (runeCells_one _) (by simp only [maxLen]; omega) (by omega) (by simp) ?_)
  intro v1 w1 happ
  have HO := Lib.hid (show w1.ownsRow w.heap.size 21 1 v1 n (runeCells l) by have := happ.own; simpa using this)
  have HB := Lib.hid (HBA.out.trans (happ.below (by simp) HOE.out))
  clear happ
  go_wp2_with fail
  go_ret
  exact ⟨⟨_, rfl, HO.out⟩, HB.out⟩

end Go.Proofs.Ytfmebbnccjaadaa

/- The walk of chain.Go: it tells goI. -/
namespace Go.Proofs.Ytfmebbnccjaadaa
open Go.RowKit

def GoPost (lo : Nat) (w' : World) (o : List Int × (Int × Int)) (e : Ending) : Prop :=
  ∃ (A : Option Addr) (n c : Nat), e = .returned (.tuple #[.slice A n c, .agg #[.int .i64 o.2.1, .int .i64 o.2.2]]) ∧ RdX w' (fun b => lo ≤ b) 1 A n (runeCells o.1)
structure GoSt (w : World) (cs : Array Value) (s8 : Value) (out : List Int) (no : Nat) (wr : World) : Prop where
  own : wr.ownsRow w.heap.size 21 1 s8 no (runeCells out)
  len : out.length = no
  scr : Blk wr w.heap.size 51 cs
  fau : Blk wr (w.heap.size + 1) 28 #[.int .i64 0, .int .i64 0]
  below : Below w.heap.size w wr
theorem GoSt.go {w wr w' : World} {cs : Array Value} {s8 : Value} {out : List Int} {no : Nat} (h : GoSt w cs s8 out no wr) (hb : Below wr.heap.size wr w') : GoSt w cs s8 out no w' :=
  ⟨own_below h.own hb, h.len, Blk.below h.scr hb h.scr.lt, Blk.below h.fau hb h.fau.lt, h.below.trans (hb.mono h.below.size)⟩
theorem GoSt.push {w wr w' : World} {cs : Array Value} {s8 v : Value} {out E : List Int} {no m : Nat} (h : GoSt w cs s8 out no wr) (hE : E.length = m) (happ : Appended w.heap.size 21 1 s8 wr (no + m) (runeCells out ++ runeCells E) v w') : GoSt w cs v (out ++ E) (no + m) w' :=
  ⟨by rw [runeCells_append]; exact happ.own, by rw [List.length_append, h.len, hE], blk_app h.scr h.own (by decide) happ, blk_app h.fau h.own (by decide) happ, h.below.trans (happ.below h.below.size h.own)⟩
def GoRel (w : World) (s : ScriptD) (t : List Int) (cs : Array Value) (nt : Nat) (s8 s9 : Value) (wr : World) : Prop :=
  ∃ (at_ no : Nat) (out : List Int), at_ ≤ nt ∧ s9 = .int .i64 at_ ∧ no ≤ 4001 * at_ ∧ goC s t [] [] = goC s (t.drop at_) [] out ∧ GoSt w cs s8 out no wr
def InRel (w1 : World) (s : ScriptD) (t out : List Int) (at_ nt : Nat) (i : Value) (wr : World) : Prop :=
  ∃ j : Nat, at_ + j ≤ nt ∧ i = .int .i64 (at_ + j : Nat) ∧ goC s (t.drop at_) [] out = goC s (t.drop (at_ + j)) ((t.drop at_).take j) out ∧ Below w1.heap.size w1 wr
theorem at_step {t : List Int} {at_ j : Nat} {x : Int} (h : t[at_ + j]? = some x) : (t.drop at_).take j ++ [x] = (t.drop at_).take (j + 1) := by
  rw [List.take_add_one, List.getElem?_drop, h]
  rfl
theorem piece_len {t : List Int} {at_ j nt : Nat} (h : at_ + j ≤ nt) (ht : t.length = nt) : ((t.drop at_).take j).length = j := by rw [List.length_take, List.length_drop]; omega

set_option maxRecDepth 100000 in
set_option maxHeartbeats 12800000 in
theorem chain_go (X : Nat → Prop) (s : ScriptD) (t : List Int) (A1 A2 At : Option Addr) (n1 c1 n2 c2 nt ct : Nat) (w : World) (hs : ScriptAt w X s A1 n1 A2 n2) (hnc : nt ≤ ct) (hnt : nt ≤ maxLen) (ht : RdR w w.heap.size At nt t) :
    Calls Try.prog 19 #[.agg #[.bool s.only?, .slice A1 n1 c1, .slice A2 n2 c2], .slice At nt ct] w fun e w' => GoPost w.heap.size w' (goI s t) e ∧ Below w.heap.size w w' := by
  obtain ⟨i0, hi, z0, z1, z2⟩ := info_parts Try.info21
  have htl := ht.len
  have hb0 := ((Below.refl w.heap.size w).alloc (Nat.le_refl _) (.cells #[.bool s.only?, .slice A1 n1 c1, .slice A2 n2 c2] 51)).alloc (by simp) (.cells #[.int .i64 0, .int .i64 0] 28)
  have HX0 := Lib.hid (Blk.alloc (Blk.new w 51 #[.bool s.only?, .slice A1 n1 c1, .slice A2 n2 c2]) (.cells #[.int .i64 0, .int .i64 0] 28))
  have HY0 := Lib.hid (show Blk ((w.alloc (.cells #[.bool s.only?, .slice A1 n1 c1, .slice A2 n2 c2] 51)).alloc (.cells #[.int .i64 0, .int .i64 0] 28)) (w.heap.size + 1) 28 #[.int .i64 0, .int .i64 0] by
    have := Blk.new (w.alloc (.cells #[.bool s.only?, .slice A1 n1 c1, .slice A2 n2 c2] 51)) 28 #[.int .i64 0, .int .i64 0]
    simpa using this)
  have HB0 := Lib.hid hb0
  have HSA := Lib.hid (fun (W : World) (hb : Below w.heap.size w W) => show ScriptAt W X s A1 n1 A2 n2 from hs.keep (Keeps.any hb))
  have HTX := Lib.hid (fun (W : World) (hb : Below w.heap.size w W) => show RdR W W.heap.size At nt t from (Rd.below ht hb).more hb.size)
  have HTW := Lib.hid ht
  have HPL := Lib.hid (show s.passes.length = n2 from hs.pas.len)
  have hm2 := hs.m2
  clear hb0 hs ht
  go_enter Try.func19, Try.ntmps19
  go_upto_region 1 with fail
  generalize (w.alloc (.cells #[.bool s.only?, .slice A1 n1 c1, .slice A2 n2 c2] 51)).alloc (.cells #[.int .i64 0, .int .i64 0] 28) = W0 at *
  have HW := Lib.hid (chain_wrong X s A1 A2 n1 c1 n2 c2 W0 (HSA.out W0 HB0.out))
  have x0 : W0.cell? ⟨w.heap.size, 0, none⟩ = some (.bool s.only?) := HX0.out.cell 0
  have x1 : W0.cell? ⟨w.heap.size, 1, none⟩ = some (.slice A1 n1 c1) := HX0.out.cell 1
  have x2 : W0.cell? ⟨w.heap.size, 2, none⟩ = some (.slice A2 n2 c2) := HX0.out.cell 2
  go_wp2_with fail
  refine HW.out.mono ?_
  rintro e w1 ⟨rfl, hb1⟩
  have HX1 := Lib.hid (Blk.below HX0.out hb1 HX0.out.lt)
  have HY1 := Lib.hid (Blk.below HY0.out hb1 HY0.out.lt)
  have HB1 := Lib.hid (HB0.out.trans (hb1.mono HB0.out.size))
  clear hb1 HW HX0 HY0 HB0 x0 x1 x2
  obtain ⟨r1, r2, hR⟩ : ∃ r1 r2, scriptW s = (r1, r2) := ⟨_, _, rfl⟩
  have HRS := Lib.hid (fun (h : r1 = 0) (ho : s.only? = true) => script_right (s := s) (by rw [hR]; exact h) ho)
  have HGI := Lib.hid (show goI s t = if r1 ≠ 0 then ([], (r1, r2)) else if textP t ≠ 0 then ([], (textP t, 0)) else if (goC s t [] []).2.1 ≠ 0 then ([], (goC s t [] []).2) else if 4000 < (goC s t [] []).1.length then ([], (4, (s.passes.length : Int))) else ((goC s t [] []).1, (0, 0)) by unfold goI; rw [hR])
  rw [hR]
  dsimp only
  clear hR
  have hw1 := HY1.out.lt
  have HX2 := Lib.hid (HX1.out.alloc (.cells #[.int .i64 r1, .int .i64 r2] 28))
  have HY2 := Lib.hid (HY1.out.alloc (.cells #[.int .i64 r1, .int .i64 r2] 28))
  have HQ2 := Lib.hid (Blk.new w1 28 #[.int .i64 r1, .int .i64 r2])
  have HB2 := Lib.hid (HB1.out.alloc HB1.out.size (.cells #[.int .i64 r1, .int .i64 r2] 28))
  go_upto_region 2 with fail
  clear HX1 HY1 HB1
  generalize hW2 : w1.alloc (.cells #[.int .i64 r1, .int .i64 r2] 28) = W2 at *
  clear hW2
  have z0' := HQ2.out.cell 0
  have z1' := HQ2.out.cell 1
  by_cases hz : r1 = 0
  · subst hz
    have HGI1 := Lib.hid (HGI.out.trans (if_neg (fun h => h rfl)))
    have HMT := Lib.hid (match_text At nt ct t W2 hnt (HTX.out W2 HB2.out))
    go_wp2_with fail
    refine HMT.out.mono ?_
    rintro e w3 ⟨rfl, hb3⟩
    have HX3 := Lib.hid (Blk.below HX2.out hb3 HX2.out.lt)
    have HY3 := Lib.hid (Blk.below HY2.out hb3 HY2.out.lt)
    have HB3 := Lib.hid (HB2.out.trans (hb3.mono HB2.out.size))
    clear hb3 HMT HX2 HY2 HB2 HQ2 HGI z0' z1'
    obtain ⟨tp, htp⟩ : ∃ tp, textP t = tp := ⟨_, rfl⟩
    have HTS := Lib.hid (fun (h : tp = 0) => textP_small (t := t) (by rw [htp]; exact h))
    rw [htp] at HGI1 ⊢
    clear htp
    by_cases hz : tp = 0
    · subst hz
      have HGI2 := Lib.hid (HGI1.out.trans (if_neg (fun h => h rfl)))
      have hnt4 : nt ≤ 4000 := by have := HTS.out rfl; omega
      generalize hcs : (#[.bool s.only?, .slice A1 n1 c1, .slice A2 n2 c2] : Array Value) = cs at *
      have HCS := Lib.hid (show cs[0]? = some (.bool s.only?) ∧ cs[1]? = some (.slice A1 n1 c1) ∧ cs[2]? = some (.slice A2 n2 c2) by subst hcs; exact ⟨rfl, rfl, rfl⟩)
      have HST0 := Lib.hid (show GoSt w cs (.slice none 0 0) [] 0 w3 from ⟨World.ownsRow_nil _ _ _ _, rfl, HX3.out, HY3.out, HB3.out⟩)
      clear HGI1 hcs HX3 HY3 HB3
      go_wp2_with fail
      go_loopw [8, 9] (GoRel w s t cs nt) (fun _ s9 _ => nt - (intOf s9).toNat)
      case atStart => exact ⟨0, 0, [], Nat.zero_le _, rfl, Nat.le_refl _, rfl, HST0.out⟩
      case round =>
        clear HST0
        obtain ⟨at_, no, out, hat, rfl, hno, hgo, hst⟩ := hrel
        have HST := Lib.hid hst
        have HGO := Lib.hid hgo
        obtain ⟨Av, cv, rfl, _⟩ := own_form hst.own
        have hbw := hst.below
        have hzw := hbw.size
        clear hgo
        by_cases hlt : at_ < nt
        · obtain ⟨tb, tof, rfl, htb, _⟩ := HTW.out.at hlt
          have hat1 : decide ((at_ : Int) < (nt : Int)) = true := decide_eq_true (by omega)
          clear hst
          go_wp2_with fail
          go_loopw [10] (InRel wr s t out at_ nt) (fun i _ => nt - (intOf i).toNat)
          case atStart => exact ⟨0, by omega, rfl, by simp, Below.refl _ _⟩
          case round =>
            obtain ⟨j, hj, rfl, hgi, hbi⟩ := hrel
            have HGX := Lib.hid (HGO.out.trans hgi)
            have HGJ := Lib.hid hgi
            have HSI := Lib.hid (HST.out.go hbi)
            have HBI := Lib.hid hbi
            have s0 : wr.cell? ⟨w.heap.size, 0, none⟩ = some (.bool s.only?) := (HSI.out.scr.cell 0).trans HCS.out.1
            have s1 : wr.cell? ⟨w.heap.size, 1, none⟩ = some (.slice A1 n1 c1) := (HSI.out.scr.cell 1).trans HCS.out.2.1
            obtain ⟨en, hen⟩ : ∃ en, at_ + j = en := ⟨_, rfl⟩
            have HPC := Lib.hid (piece_len hj htl)
            rw [hen] at hj HGX HGJ ⊢
            clear hgi hbi
            by_cases hle : en < nt
            · obtain ⟨x, hx⟩ : ∃ z, t[en]? = some z := ⟨_, List.getElem?_eq_getElem (by omega)⟩
              obtain ⟨b', o', eA, _, cx⟩ := HTW.out.at hle
              cases eA
              rw [show t.getD en 0 = x by simp [List.getD, hx]] at cx
              have dx : wr.cell? ⟨tb, tof + en, none⟩ = some (.int .i32 x) := (HSI.out.below.cell (p := ⟨tb, tof + en, none⟩) htb).trans cx
              have hlt1 : decide ((en : Int) < (nt : Int)) = true := decide_eq_true (by omega)
              have HDX := Lib.hid (drop_at hx)
              have HAS := Lib.hid (at_step (t := t) (at_ := at_) (j := j) (by rw [hen]; exact hx))
              rw [HDX.out] at HGX HGJ
              clear hx cx
              cases ho : s.only?
              · have HMN := Lib.hid (show meant s x = true by unfold meant; rw [ho]; rfl)
                rw [ho] at s0
                have HGN := Lib.hid (HGJ.out.trans (goC_in HMN.out))
                rw [HAS.out] at HGN
                clear ho
                go_upto_region 11 with fail
                go_quiet (fail)
                go_wp2_with fail
                exact ⟨⟨j + 1, by omega, by go_num, by rw [← Nat.add_assoc, hen]; exact HGN.out, below_drewN HBI.out nq⟩, by simp [intOf]; omega⟩
              · have HHS := Lib.hid (fun (W : World) (hb : Below w.heap.size w W) => sets_has A1 n1 c1 s.only x W (HRS.out (by trivial) ho) (RdX.of (HSA.out W hb).only))
                rw [ho] at s0
                have HMN := Lib.hid (show meant s x = hasP s.only x by unfold meant; rw [ho]; rfl)
                clear ho
                go_upto_region 11 with fail
                go_region_with (go_at_call 53; refine (HHS.out _ (below_drew1 HSI.out.below)).mono ?_; rintro e wh ⟨rfl, hbh⟩)
                all_goals
                  have HBH := Lib.hid ((below_drew1 (Below.refl wr.heap.size wr)).trans hbh)
                  clear hbh
                  cases hh : hasP s.only x
                  · have HMF := Lib.hid (HMN.out.trans hh)
                    have HSF := Lib.hid (HSI.out.go HBH.out)
                    clear hh
                    by_cases hj0 : j = 0
                    · have hgt : decide ((at_ : Int) < (en : Int)) = false := decide_eq_false (by omega)
                      have hbn := (Below.refl wh.heap.size wh).alloc (Nat.le_refl _) (.cells #[.int .i32 x] 21)
                      have HS1 := Lib.hid (HSF.out.go hbn)
                      have HN1 := Lib.hid (Rd.new wh 21 1 1 [.int .i32 x] rfl)
                      have dx2 : wh.cell? ⟨tb, tof + en, none⟩ = some (.int .i32 x) := (HSF.out.below.cell (p := ⟨tb, tof + en, none⟩) htb).trans (((HSI.out.below.cell (p := ⟨tb, tof + en, none⟩) htb).symm).trans dx)
                      clear hbn
                      go_wp2_with (at_builtin; refine wpList_append_rd _ rfl (.tmp 73) (.tmp 78) 23 rfl w.heap.size 21 i0 _ 1 4 Try.underlying23 hi z0 z1 z2 rfl (by decide) _ (no) _ rfl HS1.out.own _ (some ⟨wh.heap.size, 0, none⟩) 1 1 (runeCells [x]) rfl HN1.out (runeCells_one _) (by simp only [maxLen]; omega) (by omega) HS1.out.below.size ?_)
                      intro vf wf happ
                      have HS2 := Lib.hid (HS1.out.push (E := [x]) rfl happ)
                      obtain ⟨Af, cf, rfl, _⟩ := own_form HS2.out.own
                      have HFIN := Lib.hid (show goC s t [] [] = goC s (t.drop (en + 1)) [] (out ++ [x]) from HGX.out.trans (goC_out HMF.out (by rw [show (t.drop at_).take j = [] by rw [hj0]; rfl]; exact flush_nil s out)))
                      clear happ HS1 HN1
                      go_wp2_with fail
                      exact ⟨⟨en + 1, no + 1, out ++ [x], by omega, by go_num, by omega, HFIN.out, HS2.out⟩, by simp [intOf]; omega⟩
                    · have hj1 : 0 < j := by omega
                      have hne : ¬ ct = at_ := by omega
                      have hen2 : en - at_ = j := by omega
                      have HRT := Lib.hid (RdX.of_rd (X := fun _ => True) (HTX.out _ HSF.out.below) (Nat.le_refl _) (fun _ _ => trivial))
                      have hrt := rdx_take (rdx_drop HRT.out (show at_ ≤ nt by omega)) (show j ≤ nt - at_ by omega)
                      rw [runeCells_drop, runeCells_take] at hrt
                      have HCL := Lib.hid (clone_runes tb (tof + at_) j (ct - at_) ((t.drop at_).take j) _ (by omega) hrt.of)
                      have hgt : decide ((at_ : Int) < (en : Int)) = true := decide_eq_true (by omega)
                      clear hrt HRT
                      go_wp2_with fail
                      refine HCL.out.mono ?_
                      rintro e wc ⟨⟨v, rfl, hown⟩, hbc⟩
                      obtain ⟨Ac, cc, rfl, _⟩ := own_form hown
                      have HSC := Lib.hid (HSF.out.go hbc)
                      have HALL := Lib.hid (chain_all X (fun b => w.heap.size ≤ b) s w.heap.size A1 A2 Ac n1 n2 c2 j cc ((t.drop at_).take j) wc (HSA.out wc HSC.out.below) ((HSC.out.scr.cell 2).trans HCS.out.2.2) HSC.out.scr.lt (by rw [HPC.out]; omega) (RdX.of_own hown (fun b hb => Nat.le_trans HSF.out.below.size (own_lt hown hb).1)))
                      have HPS := Lib.hid (all_small s.passes 0 ((t.drop at_).take j) (by rw [HPC.out]; omega))
                      clear hown hbc HCL
                      go_wp2_with fail
                      refine HALL.out.mono ?_
                      rintro e wd ⟨⟨A4, n4, c4, rfl, hr4⟩, hb4⟩
                      have hzc := HSC.out.below.size
                      obtain ⟨y, f1, f2, hall⟩ : ∃ y f1 f2, allI 0 s.passes ((t.drop at_).take j) = (y, (f1, f2)) := ⟨_, _, _, rfl⟩
                      have HAL := Lib.hid hall
                      rw [hall] at hr4 HPS ⊢
                      dsimp only at hr4 HPS ⊢
                      have hba := (Below.refl wd.heap.size wd).alloc (Nat.le_refl _) (.cells #[.int .i64 f1, .int .i64 f2] 28)
                      have HSD := Lib.hid ((HSC.out.go hb4).go hba)
                      have HR4 := Lib.hid (Rd.below hr4.of hba)
                      have HYL := Lib.hid (show y.length = n4 by have := hr4.1; rw [runeCells_length] at this; omega)
                      have HQ4 := Lib.hid (Blk.new wd 28 #[.int .i64 f1, .int .i64 f2])
                      have hwd : w.heap.size + 1 < wd.heap.size := Nat.lt_of_lt_of_le HSC.out.fau.lt hb4.size
                      have HNE := Lib.hid (show (t.drop at_).take j ≠ [] by intro e; have := HPC.out; rw [e] at this; simp at this; omega)
                      clear hr4 hba hb4 HALL hall
                      go_upto_region 15 with fail
                      generalize hWD : wd.alloc (.cells #[.int .i64 f1, .int .i64 f2] 28) = WD at *
                      have hWDs : wd.heap.size < WD.heap.size := HQ4.out.lt
                      clear hWD
                      have q0 := HQ4.out.cell 0
                      have q1 := HQ4.out.cell 1
                      by_cases hf : f1 = 0
                      · subst hf
                        have hn4 : n4 ≤ 4000 := by rw [← HYL.out]; exact HPS.out
                        have HFL := Lib.hid (flush_ok HNE.out HAL.out (out := out))
                        go_wp2_with (at_builtin; refine wpList_append_rd _ rfl (.tmp 66) (.tmp 67) 23 rfl w.heap.size 21 i0 _ 1 4 Try.underlying23 hi z0 z1 z2 rfl (by decide) _ no _ rfl HSD.out.own _ A4 n4 c4 (runeCells y) rfl HR4.out (runeCells_one _) (by simp only [maxLen]; omega) (by omega) HSD.out.below.size ?_)
                        intro ve we happ
                        have HSE := Lib.hid (HSD.out.push HYL.out happ)
                        obtain ⟨Ae, ce, rfl, _⟩ := own_form HSE.out.own
                        clear happ HSD HSC HSF HAL HNE q0 q1 HQ4
                        have hbn := (Below.refl we.heap.size we).alloc (Nat.le_refl _) (.cells #[.int .i32 x] 21)
                        have HS1 := Lib.hid (HSE.out.go hbn)
                        have HN1 := Lib.hid (Rd.new we 21 1 1 [.int .i32 x] rfl)
                        have dx2 : we.cell? ⟨tb, tof + en, none⟩ = some (.int .i32 x) := (HSE.out.below.cell (p := ⟨tb, tof + en, none⟩) htb).trans (((HSI.out.below.cell (p := ⟨tb, tof + en, none⟩) htb).symm).trans dx)
                        clear hbn
                        go_wp2_with (at_builtin; refine wpList_append_rd _ rfl (.tmp 73) (.tmp 78) 23 rfl w.heap.size 21 i0 _ 1 4 Try.underlying23 hi z0 z1 z2 rfl (by decide) _ ((no + n4)) _ rfl HS1.out.own _ (some ⟨we.heap.size, 0, none⟩) 1 1 (runeCells [x]) rfl HN1.out (runeCells_one _) (by simp only [maxLen]; omega) (by omega) HS1.out.below.size ?_)
                        intro vf wf happ
                        have HS2 := Lib.hid (HS1.out.push (E := [x]) rfl happ)
                        obtain ⟨Af, cf, rfl, _⟩ := own_form HS2.out.own
                        have HFIN := Lib.hid (show goC s t [] [] = goC s (t.drop (en + 1)) [] ((out ++ y) ++ [x]) from HGX.out.trans (goC_out HMF.out HFL.out))
                        clear happ HS1 HN1
                        go_wp2_with fail
                        exact ⟨⟨en + 1, (no + n4) + 1, (out ++ y) ++ [x], by omega, by go_num, by omega, HFIN.out, HS2.out⟩, by simp [intOf]; omega⟩
                      · have HFL := Lib.hid (flush_bad HNE.out HAL.out hf (out := out))
                        have HG := Lib.hid (show goI s t = ([], (f1, f2)) by rw [HGI2.out, HGX.out, goC_bad (s := s) (t := x :: t.drop (en + 1)) (fun x' t' e => by cases e; exact HMF.out) HFL.out hf, if_pos hf])
                        have y0 := HSD.out.fau.cell 0
                        have y1 := HSD.out.fau.cell 1
                        have g0 := HSD.out.fau.frozen 0
                        have g1 := HSD.out.fau.frozen 1
                        have hne1 : ¬ w.heap.size + 1 = wd.heap.size := by omega
                        have hne2 : ¬ wd.heap.size = w.heap.size + 1 := by omega
                        go_upto_region 16 with fail
                        go_region
                        all_goals
                          go_wp2_with fail
                          rw [HG.out]
                          exact bodyPost_ret (v := .tuple #[.slice none 0 0, .agg #[.int .i64 f1, .int .i64 f2]]) (by simp [results, Try.results19, go_sem, y0, y1]) rfl ⟨⟨none, 0, 0, rfl, ⟨rfl, fun h => absurd h (Nat.lt_irrefl 0)⟩⟩, ((HSD.out.below.setCell (by simp) _).setCell (by simp) _).drew⟩
                  · have HGN := Lib.hid (HGJ.out.trans (goC_in (HMN.out.trans hh)))
                    rw [HAS.out] at HGN
                    clear hh
                    go_wp2_with fail
                    exact ⟨⟨j + 1, by omega, by go_num, by rw [← Nat.add_assoc, hen]; exact HGN.out, HBI.out.trans (HBH.out.mono HBI.out.size)⟩, by simp [intOf]; omega⟩
            · obtain rfl : en = nt := by omega
              have hlt1 : decide ((en : Int) < (en : Int)) = false := decide_eq_false (by omega)
              go_upto_region 11 with fail
              go_quiet (fail)
              have HSF := Lib.hid (show GoSt w cs (.slice Av no cv) out no (wr.drewN nq) from HSI.out.go (below_drewN (Below.refl _ _) nq))
              have hj1 : 0 < j := by omega
              generalize wr.drewN nq = wh at *
              have hne : ¬ ct = at_ := by omega
              have hen2 : en - at_ = j := by omega
              have HRT := Lib.hid (RdX.of_rd (X := fun _ => True) (HTX.out _ HSF.out.below) (Nat.le_refl _) (fun _ _ => trivial))
              have hrt := rdx_take (rdx_drop HRT.out (show at_ ≤ en by omega)) (show j ≤ en - at_ by omega)
              rw [runeCells_drop, runeCells_take] at hrt
              have HCL := Lib.hid (clone_runes tb (tof + at_) j (ct - at_) ((t.drop at_).take j) _ (by omega) hrt.of)
              have hgt : decide ((at_ : Int) < (en : Int)) = true := decide_eq_true (by omega)
              clear hrt HRT
              go_wp2_with fail
              refine HCL.out.mono ?_
              rintro e wc ⟨⟨v, rfl, hown⟩, hbc⟩
              obtain ⟨Ac, cc, rfl, _⟩ := own_form hown
              have HSC := Lib.hid (HSF.out.go hbc)
              have HALL := Lib.hid (chain_all X (fun b => w.heap.size ≤ b) s w.heap.size A1 A2 Ac n1 n2 c2 j cc ((t.drop at_).take j) wc (HSA.out wc HSC.out.below) ((HSC.out.scr.cell 2).trans HCS.out.2.2) HSC.out.scr.lt (by rw [HPC.out]; omega) (RdX.of_own hown (fun b hb => Nat.le_trans HSF.out.below.size (own_lt hown hb).1)))
              have HPS := Lib.hid (all_small s.passes 0 ((t.drop at_).take j) (by rw [HPC.out]; omega))
              clear hown hbc HCL
              go_wp2_with fail
              refine HALL.out.mono ?_
              rintro e wd ⟨⟨A4, n4, c4, rfl, hr4⟩, hb4⟩
              have hzc := HSC.out.below.size
              obtain ⟨y, f1, f2, hall⟩ : ∃ y f1 f2, allI 0 s.passes ((t.drop at_).take j) = (y, (f1, f2)) := ⟨_, _, _, rfl⟩
              have HAL := Lib.hid hall
              rw [hall] at hr4 HPS ⊢
              dsimp only at hr4 HPS ⊢
              have hba := (Below.refl wd.heap.size wd).alloc (Nat.le_refl _) (.cells #[.int .i64 f1, .int .i64 f2] 28)
              have HSD := Lib.hid ((HSC.out.go hb4).go hba)
              have HR4 := Lib.hid (Rd.below hr4.of hba)
              have HYL := Lib.hid (show y.length = n4 by have := hr4.1; rw [runeCells_length] at this; omega)
              have HQ4 := Lib.hid (Blk.new wd 28 #[.int .i64 f1, .int .i64 f2])
              have hwd : w.heap.size + 1 < wd.heap.size := Nat.lt_of_lt_of_le HSC.out.fau.lt hb4.size
              have HNE := Lib.hid (show (t.drop at_).take j ≠ [] by intro e; have := HPC.out; rw [e] at this; simp at this; omega)
              clear hr4 hba hb4 HALL hall
              go_upto_region 15 with fail
              generalize hWD : wd.alloc (.cells #[.int .i64 f1, .int .i64 f2] 28) = WD at *
              have hWDs : wd.heap.size < WD.heap.size := HQ4.out.lt
              clear hWD
              have q0 := HQ4.out.cell 0
              have q1 := HQ4.out.cell 1
              by_cases hf : f1 = 0
              · subst hf
                have hn4 : n4 ≤ 4000 := by rw [← HYL.out]; exact HPS.out
                have HFL := Lib.hid (flush_ok HNE.out HAL.out (out := out))
                go_wp2_with (at_builtin; refine wpList_append_rd _ rfl (.tmp 66) (.tmp 67) 23 rfl w.heap.size 21 i0 _ 1 4 Try.underlying23 hi z0 z1 z2 rfl (by decide) _ no _ rfl HSD.out.own _ A4 n4 c4 (runeCells y) rfl HR4.out (runeCells_one _) (by simp only [maxLen]; omega) (by omega) HSD.out.below.size ?_)
                intro ve we happ
                have HSE := Lib.hid (HSD.out.push HYL.out happ)
                obtain ⟨Ae, ce, rfl, _⟩ := own_form HSE.out.own
                clear happ HSD HSC HSF HAL HNE q0 q1 HQ4
                have hfin : goC s t [] [] = goC s (t.drop en) [] (out ++ y) := by
                  rw [HGX.out, List.drop_of_length_le (by omega), goC, goC, HFL.out, flush_nil]
                have HFIN := Lib.hid hfin
                clear hfin
                go_wp2_with fail
                exact ⟨⟨en, no + n4, out ++ y, Nat.le_refl _, rfl, by omega, HFIN.out, HSE.out⟩, by simp [intOf]; omega⟩
              · have HFL := Lib.hid (flush_bad HNE.out HAL.out hf (out := out))
                have HG := Lib.hid (show goI s t = ([], (f1, f2)) by rw [HGI2.out, HGX.out, List.drop_of_length_le (by omega), goC, HFL.out, if_pos hf])
                have y0 := HSD.out.fau.cell 0
                have y1 := HSD.out.fau.cell 1
                have g0 := HSD.out.fau.frozen 0
                have g1 := HSD.out.fau.frozen 1
                have hne1 : ¬ w.heap.size + 1 = wd.heap.size := by omega
                have hne2 : ¬ wd.heap.size = w.heap.size + 1 := by omega
                go_upto_region 16 with fail
                go_region
                all_goals
                  go_wp2_with fail
                  rw [HG.out]
                  exact bodyPost_ret (v := .tuple #[.slice none 0 0, .agg #[.int .i64 f1, .int .i64 f2]]) (by simp [results, Try.results19, go_sem, y0, y1]) rfl ⟨⟨none, 0, 0, rfl, ⟨rfl, fun h => absurd h (Nat.lt_irrefl 0)⟩⟩, ((HSD.out.below.setCell (by simp) _).setCell (by simp) _).drew⟩
        · obtain rfl : at_ = nt := by omega
          have HGF := Lib.hid (show goC s t [] [] = (out, (0, 0)) by rw [HGO.out, List.drop_of_length_le (by omega), goC, flush_nil])
          have hlen := HST.out.len
          by_cases h4 : 4000 < no
          · have HG := Lib.hid (show goI s t = ([], (4, (n2 : Int))) by rw [HGI2.out, HGF.out, if_neg (fun h => h rfl), if_pos (by rw [hlen]; exact h4), HPL.out])
            have d2 : wr.cell? ⟨w.heap.size, 2, none⟩ = some (.slice A2 n2 c2) := (hst.scr.cell 2).trans HCS.out.2.2
            have y0 := hst.fau.cell 0
            have y1 := hst.fau.cell 1
            have g0 := hst.fau.frozen 0
            have g1 := hst.fau.frozen 1
            have hne : ¬ w.heap.size = w.heap.size + 1 := by omega
            clear hst
            go_upto_region 23 with fail
            go_region
            all_goals
              go_wp2_with fail
              rw [HG.out]
              exact bodyPost_ret (v := .tuple #[.slice none 0 0, .agg #[.int .i64 4, .int .i64 n2]]) (by simp [results, Try.results19, go_sem, y0, y1]) rfl ⟨⟨none, 0, 0, rfl, ⟨rfl, fun h => absurd h (Nat.lt_irrefl 0)⟩⟩, ((HST.out.below.setCell (by simp) _).setCell (by simp) _).drew⟩
          · have HG := Lib.hid (show goI s t = (out, (0, 0)) by rw [HGI2.out, HGF.out, if_neg (fun h => h rfl), if_neg (by rw [hlen]; exact h4)])
            have y0 := hst.fau.cell 0
            have y1 := hst.fau.cell 1
            have g0 := hst.fau.frozen 0
            have g1 := hst.fau.frozen 1
            have q1 := own_setCell_ne (i := 0) (u := .int .i64 0) hst.own hst.fau (by decide)
            have q2 := own_setCell_ne (i := 1) (u := .int .i64 0) q1 (hst.fau.put 0 _) (by decide)
            have HRF := Lib.hid (RdX.of_own (X := fun b => w.heap.size ≤ b) q2 (fun b hb => (own_lt q2 hb).1))
            clear hst q1 q2
            go_wp2_with fail
            rw [HG.out]
            exact bodyPost_ret (v := .tuple #[.slice Av no cv, .agg #[.int .i64 0, .int .i64 0]]) (by simp [results, Try.results19, go_sem, y0, y1]) rfl ⟨⟨Av, no, cv, rfl, HRF.out⟩, (HST.out.below.setCell (by simp) _).setCell (by simp) _⟩
    · have HG := Lib.hid (HGI1.out.trans (if_pos hz))
      have y0 := HY3.out.cell 0
      have y1 := HY3.out.cell 1
      have g0 := HY3.out.frozen 0
      have g1 := HY3.out.frozen 1
      go_wp2_with fail
      rw [HG.out]
      exact bodyPost_ret (v := .tuple #[.slice none 0 0, .agg #[.int .i64 tp, .int .i64 0]]) (by simp [results, Try.results19, go_sem, y0, y1]) rfl ⟨⟨none, 0, 0, rfl, ⟨rfl, fun h => absurd h (Nat.lt_irrefl 0)⟩⟩, (HB3.out.setCell (by simp) _).setCell (by simp) _⟩
  · have HG := Lib.hid (HGI.out.trans (if_pos hz))
    have y0 := HY2.out.cell 0
    have y1 := HY2.out.cell 1
    have g0 := HY2.out.frozen 0
    have g1 := HY2.out.frozen 1
    have hne1 : ¬ w.heap.size + 1 = w1.heap.size := by omega
    have hne2 : ¬ w1.heap.size = w.heap.size + 1 := by omega
    go_upto_region 3 with fail
    go_region
    all_goals
      go_wp2_with fail
      rw [HG.out]
      exact bodyPost_ret (v := .tuple #[.slice none 0 0, .agg #[.int .i64 r1, .int .i64 r2]]) (by simp [results, Try.results19, go_sem, y0, y1]) rfl ⟨⟨none, 0, 0, rfl, ⟨rfl, fun h => absurd h (Nat.lt_irrefl 0)⟩⟩, ((HB2.out.setCell (by simp) _).setCell (by simp) _).drew⟩

end Go.Proofs.Ytfmebbnccjaadaa
