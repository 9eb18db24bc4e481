/- What a script makes of a text, by the document's answer: goR over the pieces; it is goI. The walk of scriptref13.Go. -/
import Derived.Test.YtfmebbnccjaadaaPiecesAll
import Derived.BigRegion
namespace Go.Proofs.Ytfmebbnccjaadaa
open Go.RowKit

def allR : Nat → List PassD → List Int → List Int × (Int × Int)
  | _, [], l => (l, (0, 0))
  | k, p :: ps, l => if (passR p l).2 ≠ 0 then ([], ((passR p l).2, (k : Int))) else allR (k + 1) ps (passR p l).1
theorem all_same : ∀ (ps : List PassD) (k : Nat) (l : List Int), (∀ p ∈ ps, passW p = 0) → allR k ps l = allI k ps l := by
  intro ps
  induction ps with
  | nil => intro k l _; rfl
  | cons p ps ih =>
    intro k l h
    rw [allR, allI, pass_same (h p (by simp)), ih _ _ (fun q hq => h q (by simp [hq]))]
theorem passesGo_ok : ∀ (l : List PassD) (k : Nat), (passesGo k l).1 = 0 → ∀ p ∈ l, passW p = 0 := by
  intro l
  induction l with
  | nil => intro k _ p hp; cases hp
  | cons q l ih =>
    intro k h p hp
    rw [passesGo] at h
    by_cases hq : passW q = 0
    · rw [if_neg (fun e => e hq)] at h
      rcases List.mem_cons.1 hp with rfl | hp
      · exact hq
      · exact ih _ h p hp
    · rw [if_pos hq] at h
      exact absurd h hq
theorem passes_ok {s : ScriptD} (h : (scriptW s).1 = 0) : ∀ p ∈ s.passes, passW p = 0 := by
  unfold scriptW at h
  split at h
  · rename_i h2; exact absurd h h2.2
  · split at h
    · cases h
    · exact passesGo_ok _ _ h
def goR (s : ScriptD) : List Pc → List Int → List Int × (Int × Int)
  | [], out => (out, (0, 0))
  | p :: ps, out => if p.2 = true then (if (allR 0 s.passes p.1).2.1 ≠ 0 then ([], (allR 0 s.passes p.1).2) else goR s ps (out ++ (allR 0 s.passes p.1).1)) else goR s ps (out ++ p.1)
def goRef (s : ScriptD) (t : List Int) : List Int × (Int × Int) :=
  if (scriptW s).1 ≠ 0 then ([], scriptW s) else if textP t ≠ 0 then ([], (textP t, 0)) else if (goR s (piecesP s t) []).2.1 ≠ 0 then ([], (goR s (piecesP s t) []).2) else if 4000 < (goR s (piecesP s t) []).1.length then ([], (4, (s.passes.length : Int))) else ((goR s (piecesP s t) []).1, (0, 0))
theorem pushP_last (s : ScriptD) (a : List Pc) (p : Pc) (x : Int) : pushP s (a ++ [p]) x = a ++ pushP s [p] x := by
  have h1 : lastIn (a ++ [p]) = lastIn [p] := by rw [lastIn_snoc]; rfl
  unfold pushP
  rw [h1]
  by_cases h : meant s x = true ∧ lastIn [p] = true
  · rw [if_pos h, if_pos h, extL_snoc]
    rfl
  · rw [if_neg h, if_neg h, List.append_assoc]
theorem push_cases (s : ScriptD) (p : Pc) (x : Int) : (∃ q, pushP s [p] x = [q]) ∨ ∃ q, pushP s [p] x = [p, q] := by
  unfold pushP
  by_cases h : meant s x = true ∧ lastIn [p] = true
  · exact .inl ⟨_, if_pos h⟩
  · exact .inr ⟨_, if_neg h⟩
theorem fold_last (s : ScriptD) : ∀ (t : List Int) (a : List Pc) (p : Pc), t.foldl (pushP s) (a ++ [p]) = a ++ t.foldl (pushP s) [p] := by
  intro t
  induction t with
  | nil => intro a p; rfl
  | cons x t ih =>
    intro a p
    rw [List.foldl_cons, List.foldl_cons, pushP_last]
    rcases push_cases s p x with ⟨q, h⟩ | ⟨q, h⟩
    · rw [h]; exact ih a q
    · rw [h, show a ++ [p, q] = (a ++ [p]) ++ [q] by simp, ih, show ([p, q] : List Pc) = [p] ++ [q] from rfl, ih]
      simp
theorem go_pieces {s : ScriptD} (hok : ∀ p ∈ s.passes, passW p = 0) : ∀ (t : List Int),
    (∀ pc out, pc ≠ [] → goR s (t.foldl (pushP s) [(pc, true)]) out = goC s t pc out) ∧ (∀ out, goR s (t.foldl (pushP s) []) out = goC s t [] out) ∧ ∀ pc out, goR s (t.foldl (pushP s) [(pc, false)]) out = goC s t [] (out ++ pc) := by
  intro t
  induction t with
  | nil =>
    refine ⟨fun pc out hp => ?_, fun out => ?_, fun pc out => ?_⟩
    · rw [List.foldl_nil, goR, if_pos rfl, all_same _ _ _ hok, goC, flushI, if_neg hp]
      rfl
    · rw [List.foldl_nil, goR, goC, flush_nil]
    · rw [List.foldl_nil, goR, if_neg (by simp), goR, goC, flush_nil]
  | cons x t ih =>
    obtain ⟨ih1, ih2, ih3⟩ := ih
    have key : ∀ out, goR s (t.foldl (pushP s) [([x], meant s x)]) out = goC s (x :: t) [] out := by
      intro out
      cases hm : meant s x
      · rw [ih3, goC_out hm (flush_nil s out)]
      · rw [ih1 _ _ (by simp), goC_in hm]
        rfl
    refine ⟨fun pc out hp => ?_, fun out => ?_, fun pc out => ?_⟩
    · rw [List.foldl_cons]
      cases hm : meant s x
      · rw [pushP_new hm (fun h => by cases h.1), fold_last, show ([(pc, true)] ++ t.foldl (pushP s) [([x], false)] : List Pc) = (pc, true) :: t.foldl (pushP s) [([x], false)] from rfl, goR, if_pos rfl, all_same _ _ _ hok]
        by_cases he : (allI 0 s.passes pc).2.1 ≠ 0
        · rw [if_pos he]
          have hf : flushI s pc out = ([], (allI 0 s.passes pc).2) := by rw [flushI, if_neg hp, if_pos he]
          rw [goC, if_neg (by rw [hm]; decide), hf, if_pos he]
        · rw [if_neg he]
          have hf : flushI s pc out = (out ++ (allI 0 s.passes pc).1, (0, 0)) := by rw [flushI, if_neg hp, if_neg he]
          rw [ih3, goC_out hm hf]
      · rw [show ([(pc, true)] : List Pc) = [] ++ [(pc, true)] from rfl, pushP_ext hm]
        rw [show ([] ++ [(pc ++ [x], true)] : List Pc) = [(pc ++ [x], true)] from rfl, ih1 _ _ (by simp), goC_in hm]
    · rw [List.foldl_cons, show pushP s [] x = [([x], meant s x)] from pushP_new rfl (fun h => by have := h.2; simp [lastIn] at this)]
      exact key out
    · rw [List.foldl_cons, pushP_new (s := s) (a := [(pc, false)]) rfl (fun h => by have := h.2; simp [lastIn] at this), fold_last, show ([(pc, false)] ++ t.foldl (pushP s) [([x], meant s x)] : List Pc) = (pc, false) :: t.foldl (pushP s) [([x], meant s x)] from rfl, goR, if_neg (by simp)]
      exact key (out ++ pc)
theorem goRef_same (s : ScriptD) (t : List Int) : goRef s t = goI s t := by
  unfold goRef goI
  by_cases h : (scriptW s).1 = 0
  · rw [show goR s (piecesP s t) [] = goC s t [] [] from (go_pieces (passes_ok h) t).2.1 []]
  · rw [if_pos h, if_pos h]

theorem go_small (s : ScriptD) (t : List Int) : (goI s t).1.length ≤ 4000 := by
  unfold goI
  split
  · exact Nat.zero_le _
  · split
    · exact Nat.zero_le _
    · split
      · exact Nat.zero_le _
      · split
        · exact Nat.zero_le _
        · rename_i h; simp only; omega

def RgRel (w4 : World) (s : ScriptD) (acc : List Pc) (m : Nat) (s10 i : Value) (wr : World) : Prop :=
  ∃ (k no : Nat) (out : List Int), k ≤ m ∧ i = .int .i64 k ∧ no ≤ 4000 * k ∧ out.length = no ∧ wr.ownsRow w4.heap.size 21 1 s10 no (runeCells out) ∧ goR s acc [] = goR s (acc.drop k) out ∧ Below w4.heap.size w4 wr
def RpRel (w1 : World) (s : ScriptD) (pc : List Int) (n2 : Nat) (s12 i : Value) (wr : World) : Prop :=
  ∃ (k n c : Nat) (A : Option Addr) (l' : List Int), k ≤ n2 ∧ i = .int .i64 k ∧ s12 = .slice A n c ∧ RdR wr wr.heap.size A n l' ∧ l'.length ≤ 4000 ∧ allR 0 s.passes pc = allR k (s.passes.drop k) l' ∧ Below w1.heap.size w1 wr

set_option maxRecDepth 100000 in
set_option maxHeartbeats 12800000 in
theorem ref13_go (X : Nat → Prop) (s : ScriptD) (t : List Int) (A1 A2 At : Option Addr) (n1 c1 n2 c2 nt ct : Nat) (w : World) (hs : ScriptAt w X s A1 n1 A2 n2) (hnt : nt ≤ maxLen) (ht : RdR w w.heap.size At nt t) :
    Calls Try.prog 20 #[.agg #[.bool s.only?, .slice A1 n1 c1, .slice A2 n2 c2], .slice At nt ct] w fun e w' => GoPost w.heap.size w' (goRef s t) e ∧ Below w.heap.size w w' := by
  obtain ⟨i0, hi, z0, z1, z2⟩ := info_parts Try.info21
  have htl := ht.len
  have hb0 := ((Below.refl w.heap.size w).alloc (Nat.le_refl _) (.cells #[.bool s.only?, .slice A1 n1 c1, .slice A2 n2 c2] 51)).alloc (by simp) (.cells #[.int .i64 0, .int .i64 0] 28)
  have HX0 := Lib.hid (Blk.alloc (Blk.new w 51 #[.bool s.only?, .slice A1 n1 c1, .slice A2 n2 c2]) (.cells #[.int .i64 0, .int .i64 0] 28))
  have HY0 := Lib.hid (show Blk ((w.alloc (.cells #[.bool s.only?, .slice A1 n1 c1, .slice A2 n2 c2] 51)).alloc (.cells #[.int .i64 0, .int .i64 0] 28)) (w.heap.size + 1) 28 #[.int .i64 0, .int .i64 0] by
    have := Blk.new (w.alloc (.cells #[.bool s.only?, .slice A1 n1 c1, .slice A2 n2 c2] 51)) 28 #[.int .i64 0, .int .i64 0]
    simpa using this)
  have HB0 := Lib.hid hb0
  have HSA := Lib.hid (fun (W : World) (hb : Below w.heap.size w W) => show ScriptAt W X s A1 n1 A2 n2 from hs.keep (Keeps.any hb))
  have HTX := Lib.hid (fun (W : World) (hb : Below w.heap.size w W) => show RdR W W.heap.size At nt t from (Rd.below ht hb).more hb.size)
  have HPL := Lib.hid (show s.passes.length = n2 from hs.pas.len)
  have hm2 := hs.m2
  simp only [maxLen] at hm2
  clear hb0 hs ht
  go_enter Try.func20, Try.ntmps20
  go_upto_region 1 with fail
  generalize (w.alloc (.cells #[.bool s.only?, .slice A1 n1 c1, .slice A2 n2 c2] 51)).alloc (.cells #[.int .i64 0, .int .i64 0] 28) = W0 at *
  have HW := Lib.hid (ref13_wrong X s A1 A2 n1 c1 n2 c2 W0 (HSA.out W0 HB0.out))
  have x0 : W0.cell? ⟨w.heap.size, 0, none⟩ = some (.bool s.only?) := HX0.out.cell 0
  have x1 : W0.cell? ⟨w.heap.size, 1, none⟩ = some (.slice A1 n1 c1) := HX0.out.cell 1
  have x2 : W0.cell? ⟨w.heap.size, 2, none⟩ = some (.slice A2 n2 c2) := HX0.out.cell 2
  go_wp2_with fail
  refine HW.out.mono ?_
  rintro e w1 ⟨rfl, hb1⟩
  have HX1 := Lib.hid (Blk.below HX0.out hb1 HX0.out.lt)
  have HY1 := Lib.hid (Blk.below HY0.out hb1 HY0.out.lt)
  have HB1 := Lib.hid (HB0.out.trans (hb1.mono HB0.out.size))
  clear hb1 HW HX0 HY0 HB0 x0 x1 x2
  obtain ⟨r1, r2, hR⟩ : ∃ r1 r2, scriptW s = (r1, r2) := ⟨_, _, rfl⟩
  have HRS := Lib.hid (fun (h : r1 = 0) => passes_ok (s := s) (by rw [hR]; exact h))
  have HGI := Lib.hid (show goRef s t = if r1 ≠ 0 then ([], (r1, r2)) else if textP t ≠ 0 then ([], (textP t, 0)) else if (goR s (piecesP s t) []).2.1 ≠ 0 then ([], (goR s (piecesP s t) []).2) else if 4000 < (goR s (piecesP s t) []).1.length then ([], (4, (s.passes.length : Int))) else ((goR s (piecesP s t) []).1, (0, 0)) by unfold goRef; rw [hR])
  rw [hR]
  dsimp only
  clear hR
  have hw1 := HY1.out.lt
  have HX2 := Lib.hid (HX1.out.alloc (.cells #[.int .i64 r1, .int .i64 r2] 28))
  have HY2 := Lib.hid (HY1.out.alloc (.cells #[.int .i64 r1, .int .i64 r2] 28))
  have HQ2 := Lib.hid (Blk.new w1 28 #[.int .i64 r1, .int .i64 r2])
  have HB2 := Lib.hid (HB1.out.alloc HB1.out.size (.cells #[.int .i64 r1, .int .i64 r2] 28))
  go_upto_region 2 with fail
  clear HX1 HY1 HB1
  generalize hW2 : w1.alloc (.cells #[.int .i64 r1, .int .i64 r2] 28) = W2 at *
  clear hW2
  have z0' := HQ2.out.cell 0
  have z1' := HQ2.out.cell 1
  by_cases hz : r1 = 0
  · subst hz
    have HOK := Lib.hid (HRS.out rfl)
    have HGI1 := Lib.hid (HGI.out.trans (if_neg (fun h => h rfl)))
    have HMT := Lib.hid (ref7_text At nt ct t W2 hnt (HTX.out W2 HB2.out))
    go_wp2_with fail
    refine HMT.out.mono ?_
    rintro e w3 ⟨rfl, hb3⟩
    have HX3 := Lib.hid (Blk.below HX2.out hb3 HX2.out.lt)
    have HY3 := Lib.hid (Blk.below HY2.out hb3 HY2.out.lt)
    have HB3 := Lib.hid (HB2.out.trans (hb3.mono HB2.out.size))
    clear hb3 HMT HX2 HY2 HB2 HQ2 HGI HRS z0' z1'
    obtain ⟨tp, htp⟩ : ∃ tp, textP t = tp := ⟨_, rfl⟩
    have HTS := Lib.hid (fun (h : tp = 0) => textP_small (t := t) (by rw [htp]; exact h))
    rw [htp] at HGI1 ⊢
    clear htp
    by_cases hz : tp = 0
    · subst hz
      have HGI2 := Lib.hid (HGI1.out.trans (if_neg (fun h => h rfl)))
      have hnt4 : nt ≤ 4000 := by have := HTS.out rfl; omega
      have x0 : w3.cell? ⟨w.heap.size, 0, none⟩ = some (.bool s.only?) := HX3.out.cell 0
      have x1 : w3.cell? ⟨w.heap.size, 1, none⟩ = some (.slice A1 n1 c1) := HX3.out.cell 1
      have x2 : w3.cell? ⟨w.heap.size, 2, none⟩ = some (.slice A2 n2 c2) := HX3.out.cell 2
      have HPC := Lib.hid (ref13_pieces X s t A1 A2 At n1 c1 n2 c2 nt ct w3 (HSA.out w3 HB3.out) hnt4 (HTX.out w3 HB3.out))
      go_wp2_with fail
      refine HPC.out.mono ?_
      rintro e w4 ⟨⟨v6, v7, m, us, rfl, hpst, hmn, hpl⟩, hb4⟩
      have HPS := Lib.hid hpst
      have HPW := Lib.hid hpl
      have hx4 := Blk.below HX3.out hb4 HX3.out.lt
      have hy4 := Blk.below HY3.out hb4 HY3.out.lt
      have HB4 := Lib.hid (HB3.out.trans (hb4.mono HB3.out.size))
      have HX4 := Lib.hid hx4
      have HY4 := Lib.hid hy4
      have hw4 : w.heap.size + 1 < w4.heap.size := hy4.lt
      obtain ⟨A6, c6, rfl, _⟩ := own_form hpst.o6
      obtain ⟨A7, c7, rfl, _⟩ := own_form hpst.o7
      clear hpst hpl hx4 hy4 hb4 HPC x0 x1 x2 HX3 HY3 HB3 HGI1
      generalize piecesP s t = acc at *
      go_wp2_with fail
      go_loopw [10, 37] (RgRel w4 s acc m) (fun _ i _ => m - (intOf i).toNat)
      case atStart => exact ⟨0, 0, [], Nat.zero_le _, rfl, Nat.le_refl _, rfl, World.ownsRow_nil _ _ _ _, rfl, Below.refl _ _⟩
      case round =>
        obtain ⟨k, no, out, hk, rfl, hno, hlen, hown, hgo, hb⟩ := hrel
        obtain ⟨Av, cv, rfl, _⟩ := own_form hown
        have hz4 := hb.size
        have HO := Lib.hid hown
        have HB := Lib.hid hb
        have HGO := Lib.hid hgo
        have HLN := Lib.hid hlen
        have HBW := Lib.hid (HB4.out.trans (hb.mono HB4.out.size))
        clear hown hb hgo
        by_cases hlt : k < m
        · obtain ⟨⟨pc, bl⟩, hp⟩ : ∃ z, acc[k]? = some z := ⟨_, List.getElem?_eq_getElem (by have := HPS.out.len; omega)⟩
          obtain ⟨u, hu⟩ : ∃ z, us[k]? = some z := ⟨_, List.getElem?_eq_getElem (by have := HPS.out.ul; omega)⟩
          have hpn := HPW.out _ (List.mem_of_getElem? hp)
          have howu := HPS.out.own k _ u hp hu
          obtain ⟨gu, hgu⟩ := HPS.out.blk k u hu
          obtain ⟨cu, rfl, _⟩ := own_blk howu hgu
          obtain ⟨g6, cc6, e6, _, _, _⟩ := own_some HPS.out.o6 (by omega)
          cases e6
          obtain ⟨g7, cc7, e7, _, _, _⟩ := own_some HPS.out.o7 (by omega)
          cases e7
          have t6 : wr.cell? ⟨g6, k, none⟩ = some (.slice (some ⟨gu, 0, none⟩) pc.length cu) := (HB.out.cell (p := ⟨g6, k, none⟩) (own_lt HPS.out.o6 rfl).2).trans (by rw [HPS.out.o6.cellAt k (by omega)]; exact hu)
          have t7 : wr.cell? ⟨g7, k, none⟩ = some (.bool bl) := (HB.out.cell (p := ⟨g7, k, none⟩) (own_lt HPS.out.o7 rfl).2).trans (by rw [HPS.out.o7.cellAt k (by omega), List.getElem?_map, hp]; rfl)
          have HRU := Lib.hid (Rd.of_own (own_below howu HB.out))
          obtain ⟨n, hn⟩ : ∃ n, pc.length = n := ⟨_, rfl⟩
          have HPN := Lib.hid hn
          simp only at hpn howu
          rw [hn] at t6 HRU hpn
          have HGO := Lib.hid (HGO.out.trans (by rw [drop_at hp]))
          clear hp hu howu hgu hn
          cases bl
          · have HGN := Lib.hid (show goR s acc [] = goR s (acc.drop (k + 1)) (out ++ pc) by rw [HGO.out, goR, if_neg (by simp)])
            have HOX := Lib.hid (HO.out)
            have HRX := Lib.hid (HRU.out)
            have HBX := Lib.hid (HB.out)
            go_wp2_with (at_builtin; refine wpList_append_rd _ rfl (.tmp 67) (.tmp 68) 23 rfl w4.heap.size 21 i0 _ 1 4 Try.underlying23 hi z0 z1 z2 rfl (by decide) _ no _ rfl HOX.out _ (some ⟨gu, 0, none⟩) n cu (runeCells pc) rfl HRX.out (runeCells_one _) (by simp only [maxLen]; omega) (by omega) HBX.out.size ?_)
            intro v9 w9 happ
            have ho9 := happ.own
            rw [← runeCells_append] at ho9
            have HO9 := Lib.hid ho9
            have HB9 := Lib.hid (HBX.out.trans (happ.below HBX.out.size HOX.out))
            have HL9 := Lib.hid (show (out ++ pc).length = no + n by rw [List.length_append, HLN.out, HPN.out])
            clear happ ho9
            go_wp2_with fail
            exact ⟨⟨k + 1, no + n, out ++ pc, by omega, by go_num, by omega, HL9.out, HO9.out, HGN.out, HB9.out⟩, by simp [intOf]; omega⟩
          · have q2 : wr.cell? ⟨w.heap.size, 2, none⟩ = some (.slice A2 n2 c2) := (HB.out.cell (p := ⟨w.heap.size, 2, none⟩) (by simp only; omega)).trans (HX4.out.cell 2)
            go_wp2_with fail
            go_loopw [12, 49] (RpRel wr s pc n2) (fun _ i _ => n2 - (intOf i).toNat)
            case atStart => exact ⟨0, n, cu, some ⟨gu, 0, none⟩, pc, Nat.zero_le _, rfl, rfl, HRU.out, by rw [HPN.out]; omega, rfl, Below.refl _ _⟩
            case round =>
              obtain ⟨j, nn, cc, A, l', hj, rfl, rfl, hrd, hl4, hgi, hbi⟩ := hrel
              have HBI := Lib.hid hbi
              have HGJ := Lib.hid hgi
              have hzi := hbi.size
              have hnn := hrd.1
              rw [runeCells_length] at hnn
              have HRD := Lib.hid hrd
              clear hbi hgi hrd
              by_cases hjl : j < n2
              · obtain ⟨p, hp⟩ : ∃ z, s.passes[j]? = some z := ⟨_, List.getElem?_eq_getElem (by rw [HPL.out]; exact hjl)⟩
                have HBJ := Lib.hid (HBW.out.trans (HBI.out.mono HBW.out.size))
                obtain ⟨b, off, Ar, nr, cr, rfl, _, hbb, e0, e1, hr, hnr⟩ := pass_at (HSA.out wr HBJ.out).pas hp
                have hpw := HOK.out p (List.mem_of_getElem? hp)
                rw [drop_at hp, allR, pass_same hpw] at HGJ
                have hba := (Below.refl wr.heap.size wr).alloc (Nat.le_refl _) (.cells #[.string p.name, .slice Ar nr cr] 104)
                have HM := Lib.hid (ref13_pass X p Ar A nr cr nn cc l' (wr.alloc (.cells #[.string p.name, .slice Ar nr cr] 104)) hnr (hr.keep (Keeps.any hba) (fun _ _ => RuleC.keep (Keeps.any hba))) (by omega) ((Rd.below HRD.out hba).more hba.size))
                rw [pass_same hpw] at HM
                have HSM := Lib.hid (pass_small p hl4)
                have HBA := Lib.hid (HBI.out.trans (hba.mono hzi))
                have HP := Lib.hid (Blk.new wr 104 #[.string p.name, .slice Ar nr cr])
                clear hp hr hba hpw
                go_upto_region 16 with fail
                generalize hW : wr.alloc (.cells #[.string p.name, .slice Ar nr cr] 104) = W at *
                have hwz : wr.heap.size < W.heap.size := HP.out.lt
                clear hW e0 e1
                have p0 : W.cell? ⟨wr.heap.size, 0, none⟩ = some (.string p.name) := HP.out.cell 0
                have p1 : W.cell? ⟨wr.heap.size, 1, none⟩ = some (.slice Ar nr cr) := HP.out.cell 1
                go_wp2_with fail
                refine HM.out.mono ?_
                rintro e wp ⟨⟨A3, n3, c3, rfl, hr3⟩, hb3⟩
                have HR3 := Lib.hid hr3.of
                have HBP := Lib.hid (HBA.out.trans (hb3.mono HBA.out.size))
                obtain ⟨x, f, hx⟩ : ∃ x f, passI p l' = (x, f) := ⟨_, _, rfl⟩
                rw [hx] at HGJ HSM HR3 ⊢
                dsimp only at HGJ HSM HR3 ⊢
                clear hb3 hr3 p0 p1 HM hx
                by_cases hf0 : f = 0
                · subst hf0
                  have HG := Lib.hid (HGJ.out.trans (if_neg (fun h => h rfl)))
                  go_wp2_with fail
                  exact ⟨⟨j + 1, n3, c3, A3, x, by omega, by go_num, rfl, HR3.out, HSM.out, HG.out, HBP.out⟩, by simp [intOf]; omega⟩
                · have HG := Lib.hid (HGJ.out.trans (if_pos hf0))
                  have HGE := Lib.hid (show goRef s t = ([], (f, (j : Int))) by rw [HGI2.out, HGO.out, goR, if_pos rfl, HG.out, if_pos hf0, if_pos hf0])
                  have hbt := HB.out.trans (HBP.out.mono HB.out.size)
                  have hyf := Blk.below HY4.out hbt (by omega)
                  have HBF := Lib.hid (HB4.out.trans (hbt.mono HB4.out.size))
                  have y0 := hyf.cell 0
                  have y1 := hyf.cell 1
                  have g0 := hyf.frozen 0
                  have g1 := hyf.frozen 1
                  clear hbt hyf
                  go_wp2_with fail
                  rw [HGE.out]
                  exact bodyPost_ret (v := .tuple #[.slice none 0 0, .agg #[.int .i64 f, .int .i64 j]]) (by simp [results, Try.results20, go_sem, y0, y1]) rfl ⟨⟨none, 0, 0, rfl, ⟨rfl, fun h => absurd h (Nat.lt_irrefl 0)⟩⟩, (HBF.out.setCell (by simp) _).setCell (by simp) _⟩
              · obtain rfl : j = n2 := by omega
                rw [List.drop_of_length_le (by rw [HPL.out]; exact Nat.le_refl _), allR] at HGJ
                have HGN := Lib.hid (show goR s acc [] = goR s (acc.drop (k + 1)) (out ++ l') by rw [HGO.out, goR, if_pos rfl, HGJ.out, if_neg (fun h => h rfl)])
                have HOX := Lib.hid (own_below HO.out HBI.out)
                have HRX := Lib.hid (HRD.out)
                have HBX := Lib.hid (HB.out.trans (HBI.out.mono HB.out.size))
                go_wp2_with (at_builtin; refine wpList_append_rd _ rfl (.tmp 67) (.tmp 68) 23 rfl w4.heap.size 21 i0 _ 1 4 Try.underlying23 hi z0 z1 z2 rfl (by decide) _ no _ rfl HOX.out _ (A) nn cc (runeCells l') rfl HRX.out (runeCells_one _) (by simp only [maxLen]; omega) (by omega) HBX.out.size ?_)
                intro v9 w9 happ
                have ho9 := happ.own
                rw [← runeCells_append] at ho9
                have HO9 := Lib.hid ho9
                have HB9 := Lib.hid (HBX.out.trans (happ.below HBX.out.size HOX.out))
                have HL9 := Lib.hid (show (out ++ l').length = no + nn by rw [List.length_append, HLN.out]; omega)
                clear happ ho9
                go_wp2_with fail
                exact ⟨⟨k + 1, no + nn, out ++ l', by omega, by go_num, by omega, HL9.out, HO9.out, HGN.out, HB9.out⟩, by simp [intOf]; omega⟩
        · obtain rfl : k = m := by omega
          have HGF := Lib.hid (show goR s acc [] = (out, (0, 0)) by rw [HGO.out, List.drop_of_length_le (by rw [HPS.out.len]; exact Nat.le_refl _), goR])
          have hy := Blk.below HY4.out HB.out (by omega)
          have y0 := hy.cell 0
          have y1 := hy.cell 1
          have g0 := hy.frozen 0
          have g1 := hy.frozen 1
          by_cases h4 : 4000 < no
          · have HG := Lib.hid (show goRef s t = ([], (4, (n2 : Int))) by rw [HGI2.out, HGF.out, if_neg (fun h => h rfl), if_pos (by rw [hlen]; exact h4), HPL.out])
            have d2 : wr.cell? ⟨w.heap.size, 2, none⟩ = some (.slice A2 n2 c2) := (HB.out.cell (p := ⟨w.heap.size, 2, none⟩) (by simp only; omega)).trans (HX4.out.cell 2)
            have hne : ¬ w.heap.size = w.heap.size + 1 := by omega
            clear hy
            go_upto_region 24 with fail
            go_region
            all_goals
              go_wp2_with fail
              rw [HG.out]
              exact bodyPost_ret (v := .tuple #[.slice none 0 0, .agg #[.int .i64 4, .int .i64 n2]]) (by simp [results, Try.results20, go_sem, y0, y1]) rfl ⟨⟨none, 0, 0, rfl, ⟨rfl, fun h => absurd h (Nat.lt_irrefl 0)⟩⟩, ((HBW.out.setCell (by simp) _).setCell (by simp) _).drew⟩
          · have HG := Lib.hid (show goRef s t = (out, (0, 0)) by rw [HGI2.out, HGF.out, if_neg (fun h => h rfl), if_neg (by rw [hlen]; exact h4)])
            have q1 := own_setCell_ne (i := 0) (u := .int .i64 0) HO.out hy (by decide)
            have q2 := own_setCell_ne (i := 1) (u := .int .i64 0) q1 (hy.put 0 _) (by decide)
            have HRF := Lib.hid (RdX.of_own (X := fun b => w.heap.size ≤ b) q2 (fun b hb => by have := (own_lt q2 hb).1; omega))
            clear hy q1 q2
            go_wp2_with fail
            rw [HG.out]
            exact bodyPost_ret (v := .tuple #[.slice Av no cv, .agg #[.int .i64 0, .int .i64 0]]) (by simp [results, Try.results20, go_sem, y0, y1]) rfl ⟨⟨Av, no, cv, rfl, HRF.out⟩, (HBW.out.setCell (by simp) _).setCell (by simp) _⟩
    · have HG := Lib.hid (HGI1.out.trans (if_pos hz))
      have y0 := HY3.out.cell 0
      have y1 := HY3.out.cell 1
      have g0 := HY3.out.frozen 0
      have g1 := HY3.out.frozen 1
      go_wp2_with fail
      rw [HG.out]
      exact bodyPost_ret (v := .tuple #[.slice none 0 0, .agg #[.int .i64 tp, .int .i64 0]]) (by simp [results, Try.results20, go_sem, y0, y1]) rfl ⟨⟨none, 0, 0, rfl, ⟨rfl, fun h => absurd h (Nat.lt_irrefl 0)⟩⟩, (HB3.out.setCell (by simp) _).setCell (by simp) _⟩
  · have HG := Lib.hid (HGI.out.trans (if_pos hz))
    have y0 := HY2.out.cell 0
    have y1 := HY2.out.cell 1
    have g0 := HY2.out.frozen 0
    have g1 := HY2.out.frozen 1
    have hne1 : ¬ w.heap.size + 1 = w1.heap.size := by omega
    have hne2 : ¬ w1.heap.size = w.heap.size + 1 := by omega
    go_upto_region 3 with fail
    go_region
    all_goals
      go_wp2_with fail
      rw [HG.out]
      exact bodyPost_ret (v := .tuple #[.slice none 0 0, .agg #[.int .i64 r1, .int .i64 r2]]) (by simp [results, Try.results20, go_sem, y0, y1]) rfl ⟨⟨none, 0, 0, rfl, ⟨rfl, fun h => absurd h (Nat.lt_irrefl 0)⟩⟩, ((HB2.out.setCell (by simp) _).setCell (by simp) _).drew⟩

end Go.Proofs.Ytfmebbnccjaadaa
