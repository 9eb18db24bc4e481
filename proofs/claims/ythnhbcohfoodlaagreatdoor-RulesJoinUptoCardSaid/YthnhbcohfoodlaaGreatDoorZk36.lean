/- CurHex + CurChar -/
import Derived.Test.YthnhbcohfoodlaaGreatDoorZk33
import Derived.Test.YthnhbcohfoodlaaGreatDoorZk17
namespace Go.Proofs.YthnhbcohfoodlaaGreatDoor
open Go.RowKit
def ValidL (L : List Int) : Prop := ∀ x ∈ L, Utf8.valid x = true
theorem ValidL.ok {L : List Int} (h : ValidL L) : RunesOk L := fun x hx => by
  have := h x hx
  simp [Utf8.valid] at this
  omega
theorem ValidL.pk {L : List Int} (h : ValidL L) (i : Nat) : runeOk (pk L i) := by
  unfold Go.Proofs.YthnhbcohfoodlaaGreatDoor.pk
  cases hi : L[i]? with
  | none => exact .inl rfl
  | some x => exact .inr (h x (List.mem_of_getElem? hi))
theorem CurAt.at {w : World} {C : Nat} {A : Option Addr} {n c : Nat} {L : List Int} {i : Nat} (h : CurAt w C A n c L i) (h0 : 0 < n) :
    ∃ b off, A = some ⟨b, off, none⟩ ∧ b < w.heap.size ∧ ∀ j x, L[j]? = some x → w.cell? ⟨b, off + j, none⟩ = some (.int .i32 x) := by
  obtain ⟨b, off, e, _, hb, hc⟩ := h.row.2 h0
  exact ⟨b, off, e, hb, fun j x hx => hc j _ (by rw [runeCells_at, hx]; rfl)⟩
theorem cur_text {w : World} {C : Nat} {b off n c : Nat} {L : List Int} {k : Nat} (h : CurAt w C (some ⟨b, off, none⟩) n c L k) {i j : Nat} (hij : i ≤ j) (hj : j ≤ n) :
    (convert 61 9 (.slice (if c = i then some ⟨b, off, none⟩ else some ⟨b, off + i, none⟩) (j - i) (c - i))).run Tryz.prog w = .ok (.string (runesBytes (textAt L i j))) w := by
  have hlen := h.len
  have hcap := h.cap
  by_cases hn : 0 < n
  · obtain ⟨b', off', e, _, hc⟩ := h.at hn
    cases e
    have key : ∀ (o : Nat), o = off + i ∨ j - i = 0 → (convert 61 9 (.slice (some ⟨b, o, none⟩) (j - i) (c - i))).run Tryz.prog w = .ok (.string (runesBytes (textAt L i j))) w := by
      intro o ho
      rcases ho with rfl | ho
      · have := run_convert_runes (P := Tryz.prog) w 61 9 21 ⟨b, off + i, none⟩ (j - i) (c - i) (textAt L i j) (by unfold textAt; rw [List.length_take, List.length_drop]; omega) Tryz.underlying61 Tryz.underlying21 Tryz.underlying9 (fun q hq => by
          rw [add_at, Nat.add_assoc]
          unfold textAt at hq ⊢
          rw [List.length_take, List.length_drop] at hq
          refine hc (i + q) _ ?_
          rw [List.getD_eq_getElem?_getD, List.getElem?_take_of_lt (by omega), List.getElem?_drop]
          rw [List.getElem?_eq_getElem (by omega)]
          rfl)
        rw [show (textAt L i j).take (j - i) = textAt L i j from List.take_of_length_le (by unfold textAt; rw [List.length_take]; omega)] at this
        exact this
      · have := run_convert_runes (P := Tryz.prog) w 61 9 21 ⟨b, o, none⟩ (j - i) (c - i) [] (by rw [ho]; simp) Tryz.underlying61 Tryz.underlying21 Tryz.underlying9 (fun q hq => by simp at hq)
        rw [show ([] : List Int).take (j - i) = textAt L i j by unfold textAt; rw [ho]; simp] at this
        exact this
    split
    · exact key _ (.inr (by omega))
    · exact key _ (.inl rfl)
  · have := run_convert_runes (P := Tryz.prog) w 61 9 21 (if c = i then ⟨b, off, none⟩ else ⟨b, off + i, none⟩) (j - i) (c - i) [] (by rw [show j - i = 0 by omega]; simp) Tryz.underlying61 Tryz.underlying21 Tryz.underlying9 (fun q hq => by simp at hq)
    have e : (if c = i then some (⟨b, off, none⟩ : Addr) else some ⟨b, off + i, none⟩) = some (if c = i then (⟨b, off, none⟩ : Addr) else ⟨b, off + i, none⟩) := by split <;> rfl
    rw [show ([] : List Int).take (j - i) = textAt L i j by unfold textAt; rw [show j - i = 0 by omega]; simp] at this
    rw [e]
    exact this
def CharPost (w : World) (C : Nat) (A : Option Addr) (n c : Nat) (L : List Int) (r : Rdg Int) (e : Ending) (w' : World) : Prop :=
  match r with
  | .ok (x, j) => e = .returned (.int .i32 x) ∧ CurAt w' C A n c L j ∧ But w C w'
  | .error (x, p) => e = thrown x p ∧ But w C w'
def hexS : ByteArray := ⟨#[48, 49, 50, 51, 52, 53, 54, 55, 56, 57, 97, 98, 99, 100, 101, 102, 65, 66, 67, 68, 69, 70]⟩
theorem hex_any (r : Int) : (hexS.data.toList.any fun b => decide ((b.toNat : Int) = r)) = hexB r := by
  rw [Bool.eq_iff_iff]
  simp [hexS, hexB]
  omega
theorem hex_contains (r : Int) (w : World) (hr : runeOk r) :
    Calls Tryz.prog 154 #[.string hexS, .int .i32 r] w fun e w' => e = .returned (.bool (hexB r)) ∧ Below w.heap.size w w' := by
  have := contains_rune hexS r w (by decide) (by decide) (by decide) hr
  rw [hex_any] at this
  exact this
theorem CurAt.below {w w' : World} {C : Nat} {A : Option Addr} {n c : Nat} {L : List Int} {i : Nat} (h : CurAt w C A n c L i) (hb : Below w.heap.size w w') : CurAt w' C A n c L i :=
  ⟨h.blk.below hb h.blk.lt, h.row.keep (Keeps.any hb), h.size, h.le, h.cap⟩
theorem hexP_e1 {L : List Int} {i : Nat} {e : Int × Nat} (h : needP L (i + 1) 123 = .error e) : hexP L i = .error e := by unfold hexP; rw [h]
theorem hexP_e2 {L : List Int} {i a r : Nat} (h : needP L (i + 1) 123 = .ok a) (hr : r = runFrom hexB L a) (hb : r - a < 1 ∨ 6 < r - a) : hexP L i = .error (2, a) := by
  subst hr; unfold hexP; rw [h]; simp only; rw [if_pos hb]
theorem hexP_e3 {L : List Int} {i a r : Nat} {e : Int × Nat} (h : needP L (i + 1) 123 = .ok a) (hr : r = runFrom hexB L a) (hb : ¬ (r - a < 1 ∨ 6 < r - a)) (h2 : needP L r 125 = .error e) : hexP L i = .error e := by
  subst hr; unfold hexP; rw [h]; simp only; rw [if_neg hb, h2]
theorem hexP_e4 {L : List Int} {i a r k : Nat} (h : needP L (i + 1) 123 = .ok a) (hr : r = runFrom hexB L a) (hb : ¬ (r - a < 1 ∨ 6 < r - a)) (h2 : needP L r 125 = .ok k) (h3 : 1114111 < hexVal (textAt L a r)) : hexP L i = .error (3, i) := by
  subst hr; unfold hexP; rw [h]; simp only; rw [if_neg hb, h2]; simp only; rw [if_pos h3]
theorem hexP_k {L : List Int} {i a r k : Nat} (h : needP L (i + 1) 123 = .ok a) (hr : r = runFrom hexB L a) (hb : ¬ (r - a < 1 ∨ 6 < r - a)) (h2 : needP L r 125 = .ok k) (h3 : ¬ 1114111 < hexVal (textAt L a r)) : hexP L i = .ok (hexVal (textAt L a r), k) := by
  subst hr; unfold hexP; rw [h]; simp only; rw [if_neg hb, h2]; simp only; rw [if_neg h3]
def HxRel (w : World) (C : Nat) (A : Option Addr) (n c : Nat) (L : List Int) (a r : Nat) (wr : World) : Prop :=
  ∃ j, a ≤ j ∧ j ≤ n ∧ r = runFrom hexB L j ∧ CurAt wr C A n c L j ∧ But w C wr
set_option maxHeartbeats 3200000 in
set_option maxRecDepth 100000 in
theorem cur_hex (w : World) (C : Nat) (A : Option Addr) (n c : Nat) (L : List Int) (i : Nat) (h : CurAt w C A n c L i) (hL : ValidL L) (hi : i < n) :
    Calls Tryz.prog 162 #[.pointer (some ⟨C, 0, none⟩)] w (CharPost w C A n c L (hexP L i)) := by
  have hs := h.size
  have hlen := h.len
  obtain ⟨b, off, rfl, _, _⟩ := h.at (by omega)
  have HL := Lib.hid hL
  have c0 := h.blk.cell 0
  have c1 := h.blk.cell 1
  have f1 := h.blk.frozen 1
  have hw1 : IntKind.i64.wrap ((i : Int) + 1) = ((i + 1 : Nat) : Int) := by rw [wrap_small _ (by omega) (by omega)]; omega
  have hm := h.move (j := i + 1) (by omega)
  have hB1 := But.set w C 1 (.int .i64 ((i + 1 : Nat) : Int))
  rw [show (((i + 1 : Nat)) : Int) = (i : Int) + 1 by omega] at hm hB1
  have HM := Lib.hid hm
  have HB1 := Lib.hid hB1
  clear hL hm h hB1
  obtain ⟨R, hR⟩ : ∃ R, hexP L i = R := ⟨_, rfl⟩
  rw [hR]
  have HR0 := Lib.hid hR
  clear hR
  cases hn : needP L (i + 1) 123 with
  | error e0 =>
    obtain ⟨x, p⟩ := e0
    have HN := Lib.hid (cur_need _ C _ n c L (i + 1) 123 HM.out (by decide))
    rw [hn] at HN
    go_enter Tryz.func162, Tryz.ntmps162
    go_wp2_with fail
    refine HN.out.mono ?_
    rintro e w1 ⟨he, hb⟩
    unfold thrown at he
    subst he
    have HBX := Lib.hid (HB1.out.trans hb)
    clear hb HN
    go_wp2_with fail
    rw [show R = _ from HR0.out.symm.trans (hexP_e1 hn)]
    exact ⟨rfl, rfl, HBX.out⟩
  | ok a =>
    have HN0 := Lib.hid hn
    obtain ⟨rfl, hpk⟩ := needP_ok hn
    have HN := Lib.hid (cur_need _ C _ n c L (i + 1) 123 HM.out (by decide))
    rw [hn] at HN
    have hi1 : i + 1 < n := by rw [← hlen]; exact pk_lt (by rw [hpk]; decide)
    clear hn
    generalize ha : i + 1 + 1 = a at *
    have HRA := Lib.hid (textAt_run hexB L a)
    generalize hr : runFrom hexB L a = r at *
    have HRR := Lib.hid hr.symm
    clear hr
    go_enter Tryz.func162, Tryz.ntmps162
    go_wp2_with fail
    refine HN.out.mono ?_
    rintro e w1 ⟨rfl, hc, hb⟩
    have HC := Lib.hid hc
    have HB2 := Lib.hid (HB1.out.trans hb)
    have g0 := hc.blk.cell 0
    have g1 := hc.blk.cell 1
    clear hb hc HN HB1 HM
    go_wp2_with fail
    go_loopw [25] (fun _ wr => HxRel w C (some ⟨b, off, none⟩) n c L a r wr) (fun _ wr => n - (match wr.cell? ⟨C, 1, none⟩ with | some (.int _ j) => j.toNat | _ => 0))
    case atStart => exact ⟨a, Nat.le_refl _, HC.out.le, HRR.out, HC.out, HB2.out⟩
    case round =>
      obtain ⟨j, haj, hj, hrun, hcj, hbj⟩ := hrel
      have HJ := Lib.hid hcj
      have HB := Lib.hid hbj
      have HR := Lib.hid hrun
      have HPK := Lib.hid (fun (W : World) (h : CurAt W C (some ⟨b, off, none⟩) n c L j) => cur_peek W C (some ⟨b, off, none⟩) n c L j h)
      have HM0 := Lib.hid (hcj.blk.cell 1)
      have hok := HL.out.pk j
      have HHX := Lib.hid (fun (W : World) => hex_contains (pk L j) W hok)
      clear hcj hbj hrun
      by_cases hhx : hexB (pk L j) = true
      · rw [hhx] at HHX
        have hlt : j < L.length := pk_lt (fun e => by rw [e] at hhx; exact absurd hhx (by decide))
        have h0 : 0 ≤ pk L j := (hex_ascii (l := [pk L j]) (by simpa using hhx) _ (by simp)).1
        have hg : decide (0 ≤ pk L j) = true := decide_eq_true h0
        have hw2 : IntKind.i64.wrap ((j : Int) + 1) = ((j + 1 : Nat) : Int) := by rw [wrap_small _ (by omega) (by omega)]; omega
        go_wp2_with fail
        refine (HPK.out _ HJ.out).mono ?_
        rintro e w2 ⟨rfl, m, rfl⟩
        go_wp2_with fail
        refine (HHX.out _).mono ?_
        rintro e w3 ⟨rfl, hb3⟩
        have HJ3 := Lib.hid ((HJ.out.drewN m).below hb3)
        have HB3 := Lib.hid ((HB.out.trans (But.drewN wr C m)).trans (But.below C hb3))
        clear hb3
        go_wp2_with fail
        refine (HPK.out _ HJ3.out).mono ?_
        rintro e w4 ⟨rfl, m2, rfl⟩
        have HC1 := Lib.hid (HJ3.out.drewN m2)
        have d0 := HC1.out.blk.cell 0
        have d1 := HC1.out.blk.cell 1
        have f2 := HC1.out.blk.frozen 1
        have hmv := HC1.out.move (j := j + 1) (by omega)
        rw [show (((j + 1 : Nat)) : Int) = (j : Int) + 1 by omega] at hmv
        have HMV := Lib.hid hmv
        clear hmv
        go_wp2_with fail
        refine ⟨⟨j + 1, by omega, by omega, HR.out.trans (runFrom_in hlt hhx), HMV.out, (HB3.out.trans (But.drewN w3 C m2)).trans (But.set _ C 1 _)⟩, ?_⟩
        have e1 : ((w3.drewN m2).setCell ⟨C, 1, none⟩ (.int .i64 ((j : Int) + 1))).cell? ⟨C, 1, none⟩ = some (.int .i64 ((j + 1 : Nat) : Int)) := HMV.out.blk.cell 1
        have e2 : wr.cell? ⟨C, 1, none⟩ = some (.int .i64 (j : Int)) := HM0.out
        rw [e1, e2]
        simp only [Int.toNat_natCast]
        omega
      · rw [Bool.not_eq_true] at hhx
        rw [hhx] at HHX
        obtain rfl : r = j := HR.out.trans (runFrom_out (fun _ => hhx))
        clear HR
        go_wp2_with fail
        refine (HPK.out _ HJ.out).mono ?_
        rintro e w2 ⟨rfl, m, rfl⟩
        go_wp2_with fail
        refine (HHX.out _).mono ?_
        rintro e w3 ⟨rfl, hb3⟩
        have HJ3 := Lib.hid ((HJ.out.drewN m).below hb3)
        have HB3 := Lib.hid ((HB.out.trans (But.drewN wr C m)).trans (But.below C hb3))
        clear hb3
        have d0 := HJ3.out.blk.cell 0
        have d1 := HJ3.out.blk.cell 1
        have hcv := fun q => cur_text (HJ3.out.drewN q) haj hj
        have hk1 : (a : Int) ≤ (r : Int) := by omega
        have hk2 : (r : Int) ≤ (c : Int) := by have := HJ3.out.cap; omega
        have hk3 : (0 : Int) ≤ (a : Int) := by omega
        have hds : ∀ d ∈ textAt L a r, hexB d = true := by rw [HRA.out]; exact takeWhile_all _
        have HDS := Lib.hid hds
        have hlenT : (textAt L a r).length = r - a := by unfold textAt; rw [List.length_take, List.length_drop]; omega
        have hsz : (runesBytes (textAt L a r)).size = r - a := by rw [runesBytes_size (hex_ascii hds), hlenT]
        have HTX := Lib.hid (runesBytes_ascii (hex_ascii hds))
        generalize runesBytes (textAt L a r) = s at *
        clear hds
        go_wp2_with fail
        go_quiet (fail)
        have HJQ := Lib.hid (HJ3.out.drewN nq)
        have HBQ := Lib.hid (HB3.out.trans (But.drewN w3 C nq))
        generalize w3.drewN nq = wq at HJQ HBQ ⊢
        generalize (if c = a then some ({ block := b, off := off } : Addr) else some { block := b, off := off + a }) = Z
        clear hcv d0 d1 HJ3 HB3 HJ HB HM0 hk1 hk2 hk3
        rcases (show r - a < 1 ∨ 6 < r - a ∨ (1 ≤ r - a ∧ r - a ≤ 6) by omega) with hbad | hbad | ⟨hr1, hr6⟩
        · have hz : s.size = 0 := by omega
          have HF := Lib.hid (fun (W : World) => syn_fail 2 a W)
          go_wp2_with fail
          refine (HF.out _).mono ?_
          rintro e w5 ⟨rfl, rfl⟩
          go_wp2_with fail
          rw [show R = _ from HR0.out.symm.trans (hexP_e2 HN0.out HRR.out (.inl hbad))]
          exact ⟨rfl, rfl, HBQ.out⟩
        · have HF := Lib.hid (fun (W : World) => syn_fail 2 a W)
          have hq1 : decide ((s.size : Int) < 1) = false := decide_eq_false (by omega)
          have hq2 : decide ((6 : Int) < (s.size : Int)) = true := decide_eq_true (by omega)
          go_wp2_with fail
          refine (HF.out _).mono ?_
          rintro e w5 ⟨rfl, rfl⟩
          go_wp2_with fail
          rw [show R = _ from HR0.out.symm.trans (hexP_e2 HN0.out HRR.out (.inr hbad))]
          exact ⟨rfl, rfl, HBQ.out⟩
        · have hq1 : decide ((s.size : Int) < 1) = false := decide_eq_false (by omega)
          have hq2 : decide ((6 : Int) < (s.size : Int)) = false := decide_eq_false (by omega)
          have HN := Lib.hid (cur_need wq C _ n c L r 125 HJQ.out (by decide))
          have HIF := Lib.hid (show ¬ (r - a < 1 ∨ 6 < r - a) by omega)
          cases hn2 : needP L r 125 with
          | error e0 =>
            obtain ⟨x, p⟩ := e0
            rw [hn2] at HN
            go_wp2_with fail
            refine HN.out.mono ?_
            rintro e w5 ⟨he, hb⟩
            unfold thrown at he
            subst he
            have HBX := Lib.hid (HBQ.out.trans hb)
            clear hb HN
            go_wp2_with fail
            rw [show R = _ from HR0.out.symm.trans (hexP_e3 HN0.out HRR.out HIF.out hn2)]
            exact ⟨rfl, rfl, HBX.out⟩
          | ok k =>
            rw [hn2] at HN
            have HN2 := Lib.hid hn2
            obtain ⟨x0, x1⟩ := hexVal_small (l := textAt L a r) HDS.out (by omega)
            have HPI := Lib.hid (fun (W : World) => parse_int s (textAt L a r) W HTX.out HDS.out (by omega) (by omega))
            generalize hX : hexVal (textAt L a r) = X at *
            have HXX := Lib.hid hX
            clear hX hn2
            go_wp2_with fail
            refine HN.out.mono ?_
            rintro e w5 ⟨rfl, hc5, hb5⟩
            have HC5 := Lib.hid hc5
            have HB5 := Lib.hid (HBQ.out.trans hb5)
            clear hc5 hb5
            go_wp2_with fail
            refine (HPI.out _).mono ?_
            rintro e w6 ⟨rfl, hb6⟩
            have HC6 := Lib.hid (HC5.out.below hb6)
            have HB6 := Lib.hid (HB5.out.trans (But.below C hb6))
            clear hb6
            by_cases hbig : 1114111 < X
            · have HF := Lib.hid (fun (W : World) => syn_fail 3 i W)
              go_wp2_with fail
              refine (HF.out _).mono ?_
              rintro e w7 ⟨rfl, rfl⟩
              go_wp2_with fail
              rw [show R = _ from HR0.out.symm.trans (hexP_e4 HN0.out HRR.out HIF.out HN2.out (by rw [HXX.out]; exact hbig))]
              exact ⟨rfl, rfl, HB6.out⟩
            · have hwx : IntKind.i32.wrap X = X := IntWalk.i32_in _ (by omega)
              go_wp2_with fail
              go_ret
              rw [show R = _ from HR0.out.symm.trans (hexP_k HN0.out HRR.out HIF.out HN2.out (by rw [HXX.out]; omega)), HXX.out]
              exact ⟨rfl, HC6.out, HB6.out⟩
end Go.Proofs.YthnhbcohfoodlaaGreatDoor

namespace Go.Proofs.YthnhbcohfoodlaaGreatDoor
open Go.RowKit
theorem charP_plain {L : List Int} {i : Nat} (h : plainB (pk L i) = true) : charP L i = .ok (pk L i, i + 1) := by unfold charP; rw [if_pos h]
theorem charP_no {L : List Int} {i : Nat} (h : plainB (pk L i) = false) (h2 : pk L i ≠ 92) : charP L i = .error (2, i) := by unfold charP; rw [if_neg (by rw [h]; decide), if_pos h2]
theorem charP_esc {L : List Int} {i : Nat} (h2 : pk L i = 92) : charP L i = if pk L (i + 1) = 110 then .ok (10, i + 2)
  else if pk L (i + 1) = 116 then .ok (9, i + 2)
  else if pk L (i + 1) = 117 then hexP L (i + 1)
  else if pk L (i + 1) < 0 ∨ alnB (pk L (i + 1)) = true then .error (2, i + 1)
  else .ok (pk L (i + 1), i + 2) := by
  unfold charP
  rw [if_neg (by rw [h2]; decide), if_neg (by rw [h2]; decide)]
theorem alnB_iff (r : Int) : alnB r = true ↔ (48 ≤ r ∧ r ≤ 57) ∨ (97 ≤ r ∧ r ≤ 122) ∨ (65 ≤ r ∧ r ≤ 90) := by
  unfold alnB
  simp only [Bool.or_eq_true, Bool.and_eq_true, decide_eq_true_eq]
theorem CurAt.step {w : World} {C : Nat} {A : Option Addr} {n c : Nat} {L : List Int} {i : Nat} (h : CurAt w C A n c L i) (hi : i < n) :
    w.cell? ⟨C, 1, none⟩ = some (.int .i64 i) ∧ w.frozen? ⟨C, 1, none⟩ = false ∧ CurAt (w.setCell ⟨C, 1, none⟩ (.int .i64 ((i : Int) + 1))) C A n c L (i + 1) ∧ But w C (w.setCell ⟨C, 1, none⟩ (.int .i64 ((i : Int) + 1))) := by
  have hm := h.move (j := i + 1) hi
  rw [show (((i + 1 : Nat)) : Int) = (i : Int) + 1 by omega] at hm
  exact ⟨h.blk.cell 1, h.blk.frozen 1, hm, But.set w C 1 _⟩
set_option maxHeartbeats 3200000 in
set_option maxRecDepth 100000 in
theorem cur_char (w : World) (C : Nat) (A : Option Addr) (n c : Nat) (L : List Int) (i : Nat) (h : CurAt w C A n c L i) (hL : ValidL L) :
    Calls Tryz.prog 130 #[.pointer (some ⟨C, 0, none⟩)] w (CharPost w C A n c L (charP L i)) := by
  have hs := h.size
  have hlen := h.len
  have HL := Lib.hid hL
  have HC := Lib.hid h
  have HPK := Lib.hid (fun (W : World) (k : Nat) (h : CurAt W C A n c L k) => cur_peek W C A n c L k h)
  have HPL := Lib.hid (fun (W : World) (k : Nat) => syn_plain (pk L k) W (hL.pk k))
  have hw1 : IntKind.i64.wrap ((i : Int) + 1) = (i : Int) + 1 := wrap_small _ (by have := h.le; omega) (by have := h.le; omega)
  have hle := h.le
  clear h hL
  obtain ⟨R, hR⟩ : ∃ R, charP L i = R := ⟨_, rfl⟩
  rw [hR]
  have HR0 := Lib.hid hR
  clear hR
  cases hp : plainB (pk L i) with
  | true =>
    have hlt : i < L.length := pk_lt (fun e => by rw [e] at hp; exact absurd hp (by decide))
    have HR1 := Lib.hid (show R = .ok (pk L i, i + 1) from HR0.out.symm.trans (charP_plain hp))
    have HPL1 := Lib.hid (fun (W : World) => show Calls Tryz.prog 128 #[.int .i32 (pk L i)] W fun e w' => e = .returned (.bool true) ∧ Below W.heap.size W w' by have := HPL.out W i; rwa [hp] at this)
    clear hp
    go_enter Tryz.func130, Tryz.ntmps130
    go_wp2_with fail
    refine (HPK.out _ _ HC.out).mono ?_
    rintro e w1 ⟨rfl, m, rfl⟩
    go_wp2_with fail
    refine (HPL1.out _).mono ?_
    rintro e w2 ⟨rfl, hb⟩
    have HC2 := Lib.hid ((HC.out.drewN m).below hb)
    have HB2 := Lib.hid ((But.drewN w C m).trans (But.below C hb))
    clear hb
    obtain ⟨d1, d2, d3, d4⟩ := HC2.out.step (by omega)
    have HC3 := Lib.hid d3
    have HB3 := Lib.hid (HB2.out.trans d4)
    clear d3 d4
    go_wp2_with fail
    go_ret
    rw [HR1.out]
    exact ⟨rfl, HC3.out, HB3.out⟩
  | false =>
    have HPL1 := Lib.hid (fun (W : World) => show Calls Tryz.prog 128 #[.int .i32 (pk L i)] W fun e w' => e = .returned (.bool false) ∧ Below W.heap.size W w' by have := HPL.out W i; rwa [hp] at this)
    by_cases h92 : pk L i = 92
    · have hlt : i < L.length := pk_lt (by omega)
      have HRE := Lib.hid (HR0.out.symm.trans (charP_esc h92))
      have HPK1 := Lib.hid (fun (W : World) (h : CurAt W C A n c L i) => show Calls Tryz.prog 57 #[.pointer (some ⟨C, 0, none⟩)] W fun e w' => e = .returned (.int .i32 92) ∧ ∃ m, w' = W.drewN m by have := HPK.out W i h; rwa [h92] at this)
      rw [h92] at HPL1
      clear hp h92
      go_enter Tryz.func130, Tryz.ntmps130
      go_wp2_with fail
      refine (HPK1.out _ HC.out).mono ?_
      rintro e w1 ⟨rfl, m, rfl⟩
      go_wp2_with fail
      refine (HPL1.out _).mono ?_
      rintro e w2 ⟨rfl, hb⟩
      have HC2 := Lib.hid ((HC.out.drewN m).below hb)
      have HB2 := Lib.hid ((But.drewN w C m).trans (But.below C hb))
      clear hb
      obtain ⟨d1, d2, d3, d4⟩ := HC2.out.step (by omega)
      have HC3 := Lib.hid d3
      have HB3 := Lib.hid (HB2.out.trans d4)
      clear d3 d4
      go_wp2_with fail
      refine (HPK.out _ _ HC3.out).mono ?_
      rintro e w3 ⟨rfl, m3, hw3⟩
      have HC4 := Lib.hid (HC3.out.drewN m3)
      have HB4 := Lib.hid (HB3.out.trans (But.drewN _ C m3))
      rw [← hw3] at HC4 HB4
      clear hw3 d1 d2
      have hw2 : IntKind.i64.wrap ((i : Int) + 1 + 1) = (i : Int) + 1 + 1 := wrap_small _ (by omega) (by omega)
      have hrange := pk_range HL.out.ok (i + 1)
      have HHX := Lib.hid (fun (W : World) (hc : CurAt W C A n c L (i + 1)) (hlt : i + 1 < n) => cur_hex W C A n c L (i + 1) hc HL.out hlt)
      have hcast : ((i + 1 : Nat) : Int) = (i : Int) + 1 := by omega
      generalize hr : pk L (i + 1) = r at *
      by_cases h1 : r = 110
      · subst h1
        have hlt2 : i + 1 < n := by rw [← hlen]; exact pk_lt (by omega)
        have HR1 := Lib.hid (show R = .ok (10, i + 2) from HRE.out)
        obtain ⟨d1, d2, d3, d4⟩ := HC4.out.step hlt2
        rw [hcast] at d1 d3 d4
        have HC5 := Lib.hid d3
        have HB5 := Lib.hid (HB4.out.trans d4)
        clear d3 d4 HRE hr
        go_wp2_with fail
        go_ret
        rw [HR1.out]
        exact ⟨rfl, HC5.out, HB5.out⟩
      · by_cases h2 : r = 116
        · subst h2
          have hlt2 : i + 1 < n := by rw [← hlen]; exact pk_lt (by omega)
          have HR1 := Lib.hid (show R = .ok (9, i + 2) from HRE.out)
          obtain ⟨d1, d2, d3, d4⟩ := HC4.out.step hlt2
          rw [hcast] at d1 d3 d4
          have HC5 := Lib.hid d3
          have HB5 := Lib.hid (HB4.out.trans d4)
          clear d3 d4 HRE hr
          go_wp2_with fail
          go_ret
          rw [HR1.out]
          exact ⟨rfl, HC5.out, HB5.out⟩
        · by_cases h3 : r = 117
          · subst h3
            have hlt2 : i + 1 < n := by rw [← hlen]; exact pk_lt (by omega)
            have HR1 := Lib.hid (show R = hexP L (i + 1) from HRE.out)
            have HX := Lib.hid (HHX.out _ HC4.out hlt2)
            clear HRE hr HHX
            cases hx : hexP L (i + 1) with
            | error e0 =>
              obtain ⟨x, p⟩ := e0
              rw [hx] at HX
              have HR2 := Lib.hid (HR1.out.trans hx)
              clear hx
              go_wp2_with fail
              refine HX.out.mono ?_
              rintro e w5 ⟨he, hb⟩
              unfold thrown at he
              subst he
              have HB5 := Lib.hid (HB4.out.trans hb)
              clear hb
              go_wp2_with fail
              rw [HR2.out]
              exact ⟨rfl, rfl, HB5.out⟩
            | ok q =>
              obtain ⟨x, p⟩ := q
              rw [hx] at HX
              have HR2 := Lib.hid (HR1.out.trans hx)
              clear hx
              go_wp2_with fail
              refine HX.out.mono ?_
              rintro e w5 ⟨rfl, hc, hb⟩
              have HC5 := Lib.hid hc
              have HB5 := Lib.hid (HB4.out.trans hb)
              clear hb hc
              go_wp2_with fail
              go_ret
              rw [HR2.out]
              exact ⟨rfl, HC5.out, HB5.out⟩
          · have HRE2 := Lib.hid (show R = if r < 0 ∨ alnB r = true then .error (2, i + 1) else .ok (r, i + 2) by rw [HRE.out, if_neg h1, if_neg h2, if_neg h3])
            have q1 : (r == 110) = false := by simp; exact h1
            have q2 : (r == 116) = false := by simp; exact h2
            have q3 : (r == 117) = false := by simp; exact h3
            clear HRE h1 h2 h3 HHX
            by_cases hbad : r < 0 ∨ alnB r = true
            · have HR1 := Lib.hid (show R = .error (2, i + 1) by rw [HRE2.out, if_pos hbad])
              have d1 := HC4.out.blk.cell 1
              have hcell : w3.cell? ⟨C, 1, none⟩ = some (.int .i64 ((i : Int) + 1)) := by rw [← hcast]; exact d1
              have HF := Lib.hid (fun (W : World) => syn_fail 2 ((i : Int) + 1) W)
              rw [alnB_iff] at hbad
              clear HRE2 d1
              rcases (show r < 0 ∨ (48 ≤ r ∧ r ≤ 57) ∨ (97 ≤ r ∧ r ≤ 122) ∨ (65 ≤ r ∧ r ≤ 90) by omega) with h1 | ⟨h1, h2⟩ | ⟨h1, h2⟩ | ⟨h1, h2⟩
              all_goals
                clear hbad
                go_wp2_with fail
                refine (HF.out _).mono ?_
                rintro e w5 ⟨rfl, rfl⟩
                go_wp2_with fail
                rw [HR1.out]
                exact ⟨rfl, by rw [thrown, hcast], HB4.out⟩
            · have HR1 := Lib.hid (show R = .ok (r, i + 2) by rw [HRE2.out, if_neg hbad])
              rw [alnB_iff] at hbad
              have hlt2 : i + 1 < n := by rw [← hlen]; exact pk_lt (by omega)
              obtain ⟨d1, d2, d3, d4⟩ := HC4.out.step hlt2
              rw [hcast] at d1 d3 d4
              have HC5 := Lib.hid d3
              have HB5 := Lib.hid (HB4.out.trans d4)
              clear d3 d4 HRE2 hr
              rcases (show (0 ≤ r ∧ r < 48) ∨ (57 < r ∧ r < 65) ∨ (90 < r ∧ r < 97) ∨ 122 < r by omega) with ⟨h1, h2⟩ | ⟨h1, h2⟩ | ⟨h1, h2⟩ | h1
              all_goals
                clear hbad
                go_wp2_with fail
                go_ret
                rw [HR1.out]
                exact ⟨rfl, HC5.out, HB5.out⟩
    · have HR1 := Lib.hid (show R = .error (2, i) from HR0.out.symm.trans (charP_no hp h92))
      have hb92 : (pk L i != 92) = true := by simp [h92]
      clear hp
      go_enter Tryz.func130, Tryz.ntmps130
      go_wp2_with fail
      refine (HPK.out _ _ HC.out).mono ?_
      rintro e w1 ⟨rfl, m, rfl⟩
      go_wp2_with fail
      refine (HPL1.out _).mono ?_
      rintro e w2 ⟨rfl, hb⟩
      have HC2 := Lib.hid ((HC.out.drewN m).below hb)
      have HB2 := Lib.hid ((But.drewN w C m).trans (But.below C hb))
      clear hb
      have d1 := HC2.out.blk.cell 1
      go_wp2_with fail
      refine (syn_fail 2 i _).mono ?_
      rintro e w3 ⟨rfl, rfl⟩
      go_wp2_with fail
      rw [HR1.out]
      exact ⟨rfl, rfl, HB2.out⟩
end Go.Proofs.YthnhbcohfoodlaaGreatDoor
