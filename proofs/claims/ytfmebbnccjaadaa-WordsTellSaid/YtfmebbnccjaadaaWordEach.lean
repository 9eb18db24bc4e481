/- What a script makes of each word: the walks of words.Each and scriptref17.Each. -/
import Derived.Test.YtfmebbnccjaadaaRefTitle
import Derived.Test.YtfmebbnccjaadaaRefPut
namespace Go.Proofs.Ytfmebbnccjaadaa
open Go.RowKit

def EaPost (lo : Nat) (w' : World) (o : List Int × (Int × Int)) (e : Ending) : Prop :=
  ∃ (A : Option Addr) (n c : Nat), e = .returned (.tuple #[.slice A n c, .agg #[.int .i64 o.2.1, .int .i64 o.2.2]]) ∧ RdX w' (fun b => lo ≤ b) 1 A n (runeCells o.1)
theorem EaPost.nil (lo : Nat) (w' : World) (a b : Int) : EaPost lo w' ([], (a, b)) (.returned (.tuple #[.slice none 0 0, .agg #[.int .i64 a, .int .i64 b]])) :=
  ⟨none, 0, 0, rfl, ⟨rfl, fun h => absurd h (Nat.lt_irrefl 0)⟩⟩
def EaRel (s : ScriptD) (t : List Int) (ws : List WordD) (m : Nat) (W3 : World) (out i : Value) (wr : World) : Prop :=
  ∃ (k no : Nat) (o : List Int), k ≤ m ∧ i = .int .i64 k ∧ o.length = no ∧ no ≤ k * 4000 ∧ eachGo s t ws [] = eachGo s t (ws.drop k) o ∧ wr.ownsRow W3.heap.size 21 1 out no (runeCells o) ∧ Below W3.heap.size W3 wr
theorem own_set_lw {w : World} {lo sz n : Nat} {T : TypeId} {v : Value} {xs : List Value} (h : w.ownsRow lo T sz v n xs) {p : Addr} (hp : p.block < lo) (u : Value) : (w.setCell p u).ownsRow lo T sz v n xs := by
  refine ⟨h.1, ?_⟩
  rcases h.2 with h2 | ⟨g, cap, cur, rfl, hg, hh, r⟩
  · exact .inl h2
  · exact .inr ⟨g, cap, cur, rfl, hg, (Below.heap_setCell w p u g (by omega)).trans hh, r⟩
theorem good_at {h : Int → Bool} {t : List Int} {ws : List WordD} {k : Nat} {w : WordD} (hg : goodW h t 0 none ws) (hk : ws[k]? = some w) : w.src < w.upto ∧ w.upto ≤ t.length := by
  obtain ⟨a', prev', h1, _⟩ := goodW_drop h t ws 0 none k w hg hk
  rw [drop_at hk] at h1
  exact ⟨by rw [h1.1]; exact h1.2.1, h1.2.2.1⟩
theorem each_out {s : ScriptD} {t : List Int} {w : WordD} {ws : List WordD} {o : List Int} (h : w.inn = false) : eachGo s t (w :: ws) o = eachGo s t ws (o ++ (t.drop w.src).take (w.upto - w.src)) := by rw [eachGo, h, if_neg (by decide)]
theorem each_bad {s : ScriptD} {t : List Int} {w : WordD} {ws : List WordD} {o x : List Int} {e f : Int} (h : w.inn = true) (hg : goI s ((t.drop w.src).take (w.upto - w.src)) = (x, (e, f))) (he : e ≠ 0) : eachGo s t (w :: ws) o = ([], (e, f)) := by rw [eachGo, h, if_pos rfl, hg, if_pos he]
theorem each_in {s : ScriptD} {t : List Int} {w : WordD} {ws : List WordD} {o x : List Int} {f : Int} (h : w.inn = true) (hg : goI s ((t.drop w.src).take (w.upto - w.src)) = (x, (0, f))) : eachGo s t (w :: ws) o = eachGo s t ws (o ++ x) := by rw [eachGo, h, if_pos rfl, hg, if_neg (fun h => h rfl)]

set_option maxRecDepth 100000 in
set_option maxHeartbeats 12800000 in
theorem words_each (X : Nat → Prop) (s : ScriptD) (A A1 A2 At : Option Addr) (n c n1 c1 n2 c2 nt ct : Nat) (ls : Spans) (t : List Int) (w : World) (hn : n ≤ 9223372036854775807) (hls : RdS w w.heap.size A n ls) (hs : ScriptAt w X s A1 n1 A2 n2) (hnt : nt ≤ maxLen) (hnct : nt ≤ ct) (ht : RdR w w.heap.size At nt t) :
    Calls Try.prog 36 #[.slice A n c, .agg #[.bool s.only?, .slice A1 n1 c1, .slice A2 n2 c2], .slice At nt ct] w fun e w' => EaPost w.heap.size w' (eachP ls s t) e ∧ Below w.heap.size w w' := by
  obtain ⟨i0, hi, y0, y1, y2⟩ := info_parts Try.info21
  have hb0 := ((Below.refl w.heap.size w).alloc (Nat.le_refl _) (.cells #[.bool s.only?, .slice A1 n1 c1, .slice A2 n2 c2] 51)).alloc (by simp) (.cells #[.int .i64 0, .int .i64 0] 28)
  have HX0 := Lib.hid (Blk.alloc (Blk.new w 51 #[.bool s.only?, .slice A1 n1 c1, .slice A2 n2 c2]) (.cells #[.int .i64 0, .int .i64 0] 28))
  have HY0 := Lib.hid (show Blk ((w.alloc (.cells #[.bool s.only?, .slice A1 n1 c1, .slice A2 n2 c2] 51)).alloc (.cells #[.int .i64 0, .int .i64 0] 28)) (w.heap.size + 1) 28 #[.int .i64 0, .int .i64 0] by
    have := Blk.new (w.alloc (.cells #[.bool s.only?, .slice A1 n1 c1, .slice A2 n2 c2] 51)) 28 #[.int .i64 0, .int .i64 0]
    simpa using this)
  have HB0 := Lib.hid hb0
  have HSA := Lib.hid (fun (W : World) (hb : Below w.heap.size w W) => show ScriptAt W X s A1 n1 A2 n2 from hs.keep (Keeps.any hb))
  have HLX := Lib.hid (fun (W : World) (hb : Below w.heap.size w W) => show RdS W W.heap.size A n ls from (Rd.below hls hb).more hb.size)
  have HTX := Lib.hid (fun (W : World) (hb : Below w.heap.size w W) => show RdR W W.heap.size At nt t from (Rd.below ht hb).more hb.size)
  have HTL := Lib.hid (show t.length = nt from ht.len)
  have HPL := Lib.hid (show s.passes.length = n2 from hs.pas.len)
  have HGW := Lib.hid (show (splitP ls t).2 = 0 → textP t = 0 ∧ (splitP ls t).1 = wordsP (t.map (hasP ls)) by
    intro h
    unfold splitP at h ⊢
    by_cases h1 : wrongP ls = 0
    · rw [if_neg (fun h2 => h2 h1)] at h ⊢
      by_cases h2 : textP t = 0
      · rw [if_neg (fun h3 => h3 h2)] at h ⊢
        exact ⟨h2, rfl⟩
      · rw [if_pos h2] at h; exact absurd h h2
    · rw [if_pos h1] at h; exact absurd h h1)
  clear hb0 hs hls ht
  go_enter Try.func36, Try.ntmps36
  go_upto_region 1 with fail
  generalize (w.alloc (.cells #[.bool s.only?, .slice A1 n1 c1, .slice A2 n2 c2] 51)).alloc (.cells #[.int .i64 0, .int .i64 0] 28) = W0 at *
  have HW := Lib.hid (chain_wrong X s A1 A2 n1 c1 n2 c2 W0 (HSA.out W0 HB0.out))
  have x0 : W0.cell? ⟨w.heap.size, 0, none⟩ = some (.bool s.only?) := HX0.out.cell 0
  have x1 : W0.cell? ⟨w.heap.size, 1, none⟩ = some (.slice A1 n1 c1) := HX0.out.cell 1
  have x2 : W0.cell? ⟨w.heap.size, 2, none⟩ = some (.slice A2 n2 c2) := HX0.out.cell 2
  go_wp2_with fail
  refine HW.out.mono ?_
  rintro e w1 ⟨rfl, hb1⟩
  have HX1 := Lib.hid (Blk.below HX0.out hb1 HX0.out.lt)
  have HY1 := Lib.hid (Blk.below HY0.out hb1 HY0.out.lt)
  have HB1 := Lib.hid (HB0.out.trans (hb1.mono HB0.out.size))
  clear hb1 HW HX0 HY0 HB0 x0 x1 x2
  obtain ⟨r1, r2, hR⟩ : ∃ r1 r2, scriptW s = (r1, r2) := ⟨_, _, rfl⟩
  have HEP := Lib.hid (show eachP ls s t = if r1 ≠ 0 then ([], (r1, r2)) else if (splitP ls t).2 ≠ 0 then ([], ((splitP ls t).2, 0)) else if (eachGo s t (splitP ls t).1 []).2.1 ≠ 0 then ([], (eachGo s t (splitP ls t).1 []).2) else if 4000 < (eachGo s t (splitP ls t).1 []).1.length then ([], (4, (s.passes.length : Int))) else ((eachGo s t (splitP ls t).1 []).1, (0, 0)) by unfold eachP; rw [hR])
  rw [hR]
  dsimp only
  clear hR
  have hw1 := HY1.out.lt
  have HX2 := Lib.hid (HX1.out.alloc (.cells #[.int .i64 r1, .int .i64 r2] 28))
  have HY2 := Lib.hid (HY1.out.alloc (.cells #[.int .i64 r1, .int .i64 r2] 28))
  have HQ2 := Lib.hid (Blk.new w1 28 #[.int .i64 r1, .int .i64 r2])
  have HB2 := Lib.hid (HB1.out.alloc HB1.out.size (.cells #[.int .i64 r1, .int .i64 r2] 28))
  go_upto_region 2 with fail
  clear HX1 HY1 HB1
  generalize hW2 : w1.alloc (.cells #[.int .i64 r1, .int .i64 r2] 28) = W2 at *
  clear hW2
  have q0 := HQ2.out.cell 0
  have q1 := HQ2.out.cell 1
  by_cases hz : r1 = 0
  · subst hz
    have HE1 := Lib.hid (HEP.out.trans (if_neg (fun h => h rfl)))
    have HSP := Lib.hid (words_split A At n c nt ct ls t W2 hn (HLX.out W2 HB2.out) hnt (HTX.out W2 HB2.out))
    go_wp2_with fail
    refine HSP.out.mono ?_
    rintro e w3 ⟨⟨Aw, m, cw, rfl, hrw, _⟩, hb3⟩
    obtain ⟨ws, f1, hSP⟩ : ∃ ws f1, splitP ls t = (ws, f1) := ⟨_, _, rfl⟩
    rw [hSP] at hrw HE1 HGW ⊢
    dsimp only at hrw HE1 HGW ⊢
    have HX3 := Lib.hid (Blk.below HX2.out hb3 HX2.out.lt)
    have HY3 := Lib.hid (Blk.below HY2.out hb3 HY2.out.lt)
    have HB3 := Lib.hid (HB2.out.trans (hb3.mono HB2.out.size))
    have HRW := Lib.hid hrw
    have HWL := Lib.hid (show ws.length = m by have := hrw.1; rw [wordCells_length] at this; omega)
    have hw3 := HY3.out.lt
    clear hrw hb3 hSP HSP HX2 HY2 HB2 HQ2 HEP q0 q1
    by_cases hz : f1 = 0
    · subst hz
      have HE2 := Lib.hid (HE1.out.trans (if_neg (fun h => h rfl)))
      obtain ⟨ht0, hws⟩ := HGW.out rfl
      have hnt4 : nt ≤ 4000 := by have := textP_len' ht0; have := HTL.out; omega
      have HGD := Lib.hid (show goodW (hasP ls) t 0 none ws by rw [hws]; exact words_good _ _)
      have hm4 : m ≤ 4000 := by
        have h1 := wordsP_len (t.map (hasP ls))
        rw [← hws, HWL.out, List.length_map, HTL.out] at h1
        omega
      clear ht0 hws HGW HE1
      go_wp2_with fail
      go_loopw [11, 35] (EaRel s t ws m w3) (fun _ i _ => m - (intOf i).toNat)
      case atStart => exact ⟨0, 0, [], Nat.zero_le _, rfl, rfl, Nat.le_refl _, rfl, World.ownsRow_nil _ _ _ _, Below.refl _ _⟩
      case round =>
        obtain ⟨k, no, o, hk, rfl, hol, hok, hgo, ho, hb⟩ := hrel
        have HOL := Lib.hid hol
        have HGO := Lib.hid hgo
        have HO := Lib.hid ho
        have HB := Lib.hid hb
        have hz := hb.size
        obtain ⟨Ao, co, rfl, _⟩ := own_form ho
        clear hol hgo
        by_cases hlt : k < m
        · obtain ⟨x, hx⟩ : ∃ x, ws[k]? = some x := ⟨_, List.getElem?_eq_getElem (by rw [HWL.out]; exact hlt)⟩
          obtain ⟨hxu, hun⟩ := good_at HGD.out hx
          rw [HTL.out] at hun
          obtain ⟨xs, u, inn⟩ := x
          dsimp only at hxu hun
          obtain ⟨b1, o1, rfl, _, hbb, hcc⟩ := HRW.out.2 (by omega)
          obtain ⟨e0, e1, e2⟩ := word_get hx
          have d0 : wr.cell? ⟨b1, o1 + k * 3, none⟩ = some (.int .i64 xs) := (hb.cell (p := ⟨b1, o1 + k * 3, none⟩) hbb).trans (hcc _ _ e0)
          have d1 : wr.cell? ⟨b1, o1 + k * 3 + 1, none⟩ = some (.int .i64 u) := (hb.cell (p := ⟨b1, o1 + k * 3 + 1, none⟩) hbb).trans (by rw [Nat.add_assoc]; exact hcc _ _ e1)
          have d2 : wr.cell? ⟨b1, o1 + k * 3 + 2, none⟩ = some (.bool inn) := (hb.cell (p := ⟨b1, o1 + k * 3 + 2, none⟩) hbb).trans (by rw [Nat.add_assoc]; exact hcc _ _ e2)
          have HGO1 := Lib.hid (show eachGo s t ws [] = eachGo s t (⟨xs, u, inn⟩ :: ws.drop (k + 1)) o by rw [HGO.out, drop_at hx])
          have HBW := Lib.hid (HB3.out.trans (hb.mono HB3.out.size))
          obtain ⟨bt, ot, rfl, _, _⟩ := (HTX.out wr HBW.out).2 (by omega)
          have hba := (Below.refl wr.heap.size wr).alloc (Nat.le_refl _) (.cells #[.int .i64 xs, .int .i64 u, .bool inn] 69)
          have HX := Lib.hid (Blk.new wr 69 #[.int .i64 xs, .int .i64 u, .bool inn])
          have HB5 := Lib.hid (HB.out.trans (hba.mono hz))
          have HO5 := Lib.hid (own_below ho hba)
          have hnect : ¬ ct = xs := by omega
          have hx0 : (0 : Int) ≤ (xs : Int) := by omega
          have hx1 : (xs : Int) ≤ (u : Int) := by omega
          have hx2 : (u : Int) ≤ (ct : Int) := by omega
          clear hx e0 e1 e2 hcc hba ho hb HO HB HGO HBW
          go_upto_region 11 with fail
          generalize wr.alloc (.cells #[.int .i64 xs, .int .i64 u, .bool inn] 69) = W5 at *
          have hw5 := HX.out.lt
          have hz5 := HB5.out.size
          clear d0 d1 d2
          have x0 := HX.out.cell 0
          have x1 := HX.out.cell 1
          have HPC := Lib.hid (fun (W : World) (hb : Below w.heap.size w W) => show RdR W W.heap.size (some ⟨bt, ot + xs, none⟩) (u - xs) ((t.drop xs).take (u - xs)) by
            have h := (rdx_take (k := u - xs) (rdx_drop (k := xs) (RdX.of_rd (X := fun _ => True) (HTX.out W hb) (Nat.le_refl _) (fun _ _ => trivial)) (by omega)) (by omega)).of
            rw [runeCells_drop, runeCells_take] at h
            exact h)
          have HB5w := Lib.hid (HB3.out.trans (HB5.out.mono HB3.out.size))
          cases inn
          · have HGN := Lib.hid (HGO1.out.trans (each_out rfl))
            have x2 := HX.out.cell 2
            have HLL := Lib.hid (show ((t.drop xs).take (u - xs)).length = u - xs by rw [List.length_take, List.length_drop, HTL.out]; omega)
            have HR5 := Lib.hid (HPC.out W5 HB5w.out)
            go_wp2_with (at_builtin; refine wpList_append_rd _ rfl (.tmp 58) (.tmp 59) 23 rfl w3.heap.size 21 i0 _ 1 4 Try.underlying23 hi y0 y1 y2 rfl (by decide) _ no _ rfl HO5.out _ (some ⟨bt, ot + xs, none⟩) (u - xs) (ct - xs) (runeCells ((t.drop xs).take (u - xs))) rfl HR5.out (runeCells_one _) (by simp only [maxLen]; omega) (by omega) HB5.out.size ?_)
            intro v9 w9 happ
            have HB9 := Lib.hid (HB5.out.trans (happ.below HB5.out.size HO5.out))
            have HO9 := Lib.hid (show w9.ownsRow w3.heap.size 21 1 v9 (no + (u - xs)) (runeCells (o ++ ((t.drop xs).take (u - xs)))) by rw [runeCells_append]; exact happ.own)
            clear happ
            go_wp2_with fail
            exact ⟨⟨k + 1, no + (u - xs), o ++ ((t.drop xs).take (u - xs)), by omega, by go_num, by rw [List.length_append, HOL.out, HLL.out], by omega, HGN.out, HO9.out, HB9.out⟩, by simp [intOf]; omega⟩
          · have x2 := HX.out.cell 2
            have HX5 := Lib.hid (Blk.below HX3.out HB5.out HX3.out.lt)
            have HY5 := Lib.hid (Blk.below HY3.out HB5.out HY3.out.lt)
            have s0 : W5.cell? ⟨w.heap.size, 0, none⟩ = some (.bool s.only?) := HX5.out.cell 0
            have s1 : W5.cell? ⟨w.heap.size, 1, none⟩ = some (.slice A1 n1 c1) := HX5.out.cell 1
            have s2 : W5.cell? ⟨w.heap.size, 2, none⟩ = some (.slice A2 n2 c2) := HX5.out.cell 2
            have HCG := Lib.hid (chain_go X s ((t.drop xs).take (u - xs)) A1 A2 (some ⟨bt, ot + xs, none⟩) n1 c1 n2 c2 (u - xs) (ct - xs) W5 (HSA.out W5 HB5w.out) (by omega) (by simp only [maxLen]; omega) (HPC.out W5 HB5w.out))
            go_wp2_with fail
            refine HCG.out.mono ?_
            rintro e w6 ⟨⟨A6, n6, c6, rfl, hr6⟩, hb6⟩
            obtain ⟨x, f1, f2, hg⟩ : ∃ x f1 f2, goI s ((t.drop xs).take (u - xs)) = (x, (f1, f2)) := ⟨_, _, _, rfl⟩
            have hsm := go_small s ((t.drop xs).take (u - xs))
            rw [hg] at hr6 hsm ⊢
            dsimp only at hr6 hsm ⊢
            have hba := (Below.refl w6.heap.size w6).alloc (Nat.le_refl _) (.cells #[.int .i64 f1, .int .i64 f2] 28)
            have hbb6 := hb6.trans (hba.mono hb6.size)
            have HY6 := Lib.hid (Blk.below HY5.out hbb6 HY5.out.lt)
            have HB6 := Lib.hid (HB5.out.trans (hbb6.mono hz5))
            have HO6 := Lib.hid (own_below HO5.out hbb6)
            have HQ6 := Lib.hid (Blk.new w6 28 #[.int .i64 f1, .int .i64 f2])
            have HR6 := Lib.hid (hr6.keep (Keeps.any hba)).of
            have HLL := Lib.hid (show x.length = n6 by have := hr6.1; rw [runeCells_length] at this; omega)
            have hn6 : n6 ≤ 4000 := by have := HLL.out; omega
            have hw6 : w.heap.size + 1 < w6.heap.size := by have := hb6.size; omega
            have HGG := Lib.hid hg
            clear hr6 hb6 hba hbb6 hsm hg s0 s1 s2 x0 x1 x2 HCG
            go_upto_region 14 with fail
            generalize w6.alloc (.cells #[.int .i64 f1, .int .i64 f2] 28) = W6 at *
            have q0 := HQ6.out.cell 0
            have q1 := HQ6.out.cell 1
            by_cases hf : f1 = 0
            · subst hf
              have HGN := Lib.hid (HGO1.out.trans (each_in rfl HGG.out))
              go_wp2_with (at_builtin; refine wpList_append_rd _ rfl (.tmp 58) (.tmp 59) 23 rfl w3.heap.size 21 i0 _ 1 4 Try.underlying23 hi y0 y1 y2 rfl (by decide) _ no _ rfl HO6.out _ A6 n6 c6 (runeCells x) rfl HR6.out (runeCells_one _) (by simp only [maxLen]; omega) (by omega) HB6.out.size ?_)
              intro v9 w9 happ
              have HB9 := Lib.hid (HB6.out.trans (happ.below HB6.out.size HO6.out))
              have HO9 := Lib.hid (show w9.ownsRow w3.heap.size 21 1 v9 (no + n6) (runeCells (o ++ x)) by rw [runeCells_append]; exact happ.own)
              clear happ
              go_wp2_with fail
              exact ⟨⟨k + 1, no + n6, o ++ x, by omega, by go_num, by rw [List.length_append, HOL.out, HLL.out], by omega, HGN.out, HO9.out, HB9.out⟩, by simp [intOf]; omega⟩
            · have HGN := Lib.hid (HGO1.out.trans (each_bad rfl HGG.out hf))
              have HG := Lib.hid (show eachP ls s t = ([], (f1, f2)) by rw [HE2.out, HGN.out]; exact if_pos hf)
              have HB7 := Lib.hid (HB3.out.trans (HB6.out.mono HB3.out.size))
              have y0' := HY6.out.cell 0
              have y1' := HY6.out.cell 1
              have g0 := HY6.out.frozen 0
              have g1 := HY6.out.frozen 1
              have hne1 : ¬ w.heap.size + 1 = w6.heap.size := by omega
              have hne2 : ¬ w6.heap.size = w.heap.size + 1 := by omega
              go_upto_region 15 with fail
              go_region
              all_goals
                go_wp2_with fail
                rw [HG.out]
                exact bodyPost_ret (v := .tuple #[.slice none 0 0, .agg #[.int .i64 f1, .int .i64 f2]]) (by simp [results, Try.results36, go_sem, y0', y1']) rfl ⟨EaPost.nil _ _ _ _, ((HB7.out.setCell (by simp) _).setCell (by simp) _).drew⟩
        · obtain rfl : k = m := by omega
          have HFIN := Lib.hid (show eachGo s t ws [] = (o, (0, 0)) by rw [HGO.out, List.drop_of_length_le (by rw [HWL.out]; exact Nat.le_refl _)]; rfl)
          have HX9 := Lib.hid (Blk.below HX3.out hb HX3.out.lt)
          have HY9 := Lib.hid (Blk.below HY3.out hb HY3.out.lt)
          have HB9 := Lib.hid (HB3.out.trans (hb.mono HB3.out.size))
          have HE3 := Lib.hid (show eachP ls s t = if 4000 < o.length then ([], (4, (s.passes.length : Int))) else (o, (0, 0)) by rw [HE2.out, HFIN.out]; exact if_neg (fun h => h rfl))
          have y0' := HY9.out.cell 0
          have y1' := HY9.out.cell 1
          have g0 := HY9.out.frozen 0
          have g1 := HY9.out.frozen 1
          have x2 : wr.cell? ⟨w.heap.size, 2, none⟩ = some (.slice A2 n2 c2) := HX9.out.cell 2
          have hne1 : ¬ w.heap.size = w.heap.size + 1 := by omega
          have hne2 : ¬ w.heap.size + 1 = w.heap.size := by omega
          by_cases hbig : 4000 < no
          · have HG := Lib.hid (HE3.out.trans (if_pos (by rw [HOL.out]; exact hbig)))
            have hgt : decide ((4000 : Int) < (no : Int)) = true := decide_eq_true (by omega)
            clear ho hb
            go_upto_region 20 with fail
            go_region
            all_goals
              go_wp2_with fail
              rw [HG.out, HPL.out]
              exact bodyPost_ret (v := .tuple #[.slice none 0 0, .agg #[.int .i64 4, .int .i64 n2]]) (by simp [results, Try.results36, go_sem, y0', y1']) rfl ⟨EaPost.nil _ _ _ _, ((HB9.out.setCell (by simp) _).setCell (by simp) _).drew⟩
          · have HG := Lib.hid (HE3.out.trans (if_neg (by rw [HOL.out]; exact hbig)))
            have hgt : decide ((4000 : Int) < (no : Int)) = false := decide_eq_false (by omega)
            have h5 := own_set_lw (own_set_lw HO.out (p := ⟨w.heap.size + 1, 0, none⟩) (by simp only; omega) (.int .i64 0)) (p := ⟨w.heap.size + 1, 1, none⟩) (by simp only; omega) (.int .i64 0)
            have HR := Lib.hid (show RdX ((wr.setCell ⟨w.heap.size + 1, 0, none⟩ (.int .i64 0)).setCell ⟨w.heap.size + 1, 1, none⟩ (.int .i64 0)) (fun b => w.heap.size ≤ b) 1 Ao no (runeCells o) from
              RdX.of_own h5 (fun b hb => by have := (own_lt h5 hb).1; omega))
            clear ho hb h5
            go_wp2_with fail
            rw [HG.out]
            exact bodyPost_ret (v := .tuple #[.slice Ao no co, .agg #[.int .i64 0, .int .i64 0]]) (by simp [results, Try.results36, go_sem, y0', y1']) rfl ⟨⟨Ao, no, co, rfl, HR.out⟩, (HB9.out.setCell (by simp) _).setCell (by simp) _⟩
    · have HG := Lib.hid (HE1.out.trans (if_pos hz))
      have y0' := HY3.out.cell 0
      have y1' := HY3.out.cell 1
      have g0 := HY3.out.frozen 0
      have g1 := HY3.out.frozen 1
      go_wp2_with fail
      rw [HG.out]
      exact bodyPost_ret (v := .tuple #[.slice none 0 0, .agg #[.int .i64 f1, .int .i64 0]]) (by simp [results, Try.results36, go_sem, y0', y1']) rfl ⟨EaPost.nil _ _ _ _, (HB3.out.setCell (by simp) _).setCell (by simp) _⟩
  · have HG := Lib.hid (HEP.out.trans (if_pos hz))
    have y0' := HY2.out.cell 0
    have y1' := HY2.out.cell 1
    have g0 := HY2.out.frozen 0
    have g1 := HY2.out.frozen 1
    have hne1 : ¬ w.heap.size + 1 = w1.heap.size := by omega
    have hne2 : ¬ w1.heap.size = w.heap.size + 1 := by omega
    go_upto_region 3 with fail
    go_region
    all_goals
      go_wp2_with fail
      rw [HG.out]
      exact bodyPost_ret (v := .tuple #[.slice none 0 0, .agg #[.int .i64 r1, .int .i64 r2]]) (by simp [results, Try.results36, go_sem, y0', y1']) rfl ⟨EaPost.nil _ _ _ _, ((HB2.out.setCell (by simp) _).setCell (by simp) _).drew⟩

end Go.Proofs.Ytfmebbnccjaadaa
