/- RdItems + RdSideFr -/
import Derived.Test.YthnhbcohfoodlaaGreatDoorZt39
import Derived.Test.YthnhbcohfoodlaaGreatDoorZt41
namespace Go.Proofs.YthnhbcohfoodlaaGreatDoor
open Go.RowKit
def ItPost (w : World) (C : Nat) (A : Option Addr) (n c : Nat) (L : List Int) (r : Rdg (List ItemD × Int)) (e : Ending) (w' : World) : Prop :=
 match r with
 | .ok ((l, cu), j) => (∃ v, e = .returned (.tuple #[v, .int .i64 cu]) ∧ ItOwn w.heap.size C w' v l ∧ l.length ≤ 20) ∧ CurAt w' C A n c L j ∧ But w C w'
 | .error (x, p) => e = thrown x p ∧ But w C w'
theorem itemsF_end {L : List Int} {f i : Nat} {out : List ItemD} {cur : Int} (h : elemP L (spaceP L i) out cur = .ok none) : itemsF L (f + 1) i out cur = .ok ((out, cur), spaceP L i) := by rw [itemsF, h]
theorem itemsF_err {L : List Int} {f i : Nat} {out : List ItemD} {cur : Int} {e : Int × Nat} (h : elemP L (spaceP L i) out cur = .error e) : itemsF L (f + 1) i out cur = .error e := by rw [itemsF, h]
theorem itemsF_step {L : List Int} {f i j : Nat} {out o : List ItemD} {cur c : Int} (h : elemP L (spaceP L i) out cur = .ok (some ((o, c), j))) : itemsF L (f + 1) i out cur = if 20 < o.length then .error (5, spaceP L i) else itemsF L f j o c := by rw [itemsF, h]
set_option maxHeartbeats 12800000 in
set_option maxRecDepth 100000 in
theorem rd_items (w : World) (C : Nat) (A : Option Addr) (n c : Nat) (L : List Int) (i : Nat) (h : CurAt w C A n c L i) (hL : ValidL L) (hn : n ≤ 100000) :
 Calls Tryz.prog 147 #[.pointer (some ⟨C, 0, none⟩)] w (ItPost w C A n c L (itemsR L i)) := by
 obtain ⟨i0, hii, z0, z1, z2⟩ := info_parts infoItemQ
 have hl := h.len
 have HL := Lib.hid hL
 have HPK := Lib.hid (fun (W : World) (m : Nat) (h : CurAt W C A n c L m) => cur_peek2 W C A n c L m h)
 have HC := Lib.hid h
 have HLO := Lib.hid (CurLo.start h)
 have hi := h.le
 obtain ⟨R, hR⟩ : ∃ R, itemsR L i = R := ⟨_, rfl⟩
 rw [hR]
 have HR := Lib.hid hR
 clear h hL hR
 go_enter Tryz.func147, Tryz.ntmps147
 go_wp2_with fail
 refine (rd_space _ C A n c L i HC.out).mono ?_
 rintro e w1 ⟨rfl, hc1, hb1⟩
 have HJ1 := Lib.hid (HLO.out.but hc1 hb1)
 have HB1 := Lib.hid hb1
 clear hc1 hb1
 go_wp2_with fail
 go_loopw [2, 3] (fun v2 v3 wr => ∃ (f j0 : Nat) (l : List ItemD) (cu : Int), j0 ≤ n ∧ n + 1 ≤ f + j0 ∧ R = itemsF L f j0 l cu ∧ l.length ≤ 20 ∧ -1 ≤ cu ∧ cu ≤ 20 ∧ v3 = .int .i64 cu ∧ ItOwn w.heap.size C wr v2 l ∧ CurLo w.heap.size wr C A n c L (spaceP L j0) ∧ But w C wr) (fun _ _ wr => n - (match wr.cell? ⟨C, 1, none⟩ with | some (.int _ j) => j.toNat | _ => 0))
 case atStart => exact ⟨L.length + 1, i, [], -1, hi, by omega, HR.out.symm, by simp, by decide, by decide, rfl, ItOwn.nil _ _ _, HJ1.out, HB1.out⟩
 case round =>
  obtain ⟨f0, j0, l, cu, hj0, hf, hgo, hl20, hcu0, hcu1, rfl, hown, hcj, hbj⟩ := hrel
  obtain ⟨f, rfl⟩ : ∃ f, f0 = f + 1 := ⟨f0 - 1, by omega⟩
  obtain ⟨a, ha⟩ : ∃ a, spaceP L j0 = a := ⟨_, rfl⟩
  have hja : j0 ≤ a := by rw [← ha]; exact spaceP_ge L j0
  have HGO := Lib.hid hgo
  have HA := Lib.hid ha
  rw [ha] at hcj
  have HJ := Lib.hid hcj
  have HB := Lib.hid hbj
  have HO := Lib.hid hown
  have HM0 := Lib.hid (hcj.cur.blk.cell 1)
  have k1 := hcj.cur.blk.cell 1
  have han := hcj.cur.le
  obtain ⟨Av, cv, rfl, hcv⟩ := hown.form
  obtain ⟨x, hx⟩ : ∃ x, pk L a = x := ⟨_, rfl⟩
  have HX := Lib.hid hx
  have HP := Lib.hid (fun (W : World) (h : CurAt W C A n c L a) => show Calls Tryz.prog 57 #[.pointer (some ⟨C, 0, none⟩)] W fun e w' => e = .returned (.int .i32 x) ∧ CurAt w' C A n c L a ∧ But W C w' by have := HPK.out W a h; rwa [hx] at this)
  have hwa : IntKind.i64.wrap ((a : Int) + 1) = (a : Int) + 1 := wrap_small _ (by omega) (by omega)
  clear hgo ha hcj hbj hown hx
  go_upto_block 2 with (go_at_call 57; refine (HP.out _ HJ.out.cur).mono ?_; rintro e w3 ⟨rfl, hc3, hb3⟩)
  have HJ3 := Lib.hid (HJ.out.but hc3 hb3)
  have HB3 := Lib.hid (HB.out.trans hb3)
  have HO3 := Lib.hid (HO.out.but hb3 HJ.out.lt)
  clear hc3 hb3
  go_cut [2, 3] (fun v2 v3 wx => ∃ (o : List ItemD) (c' : Int) (j : Nat), elemP L a l cu = .ok (some ((o, c'), j)) ∧ j ≤ n ∧ -1 ≤ c' ∧ c' ≤ 20 ∧ o.length ≤ 100100 ∧ v3 = .int .i64 c' ∧ ItOwn w.heap.size C wx v2 o ∧ CurLo w.heap.size wx C A n c L j ∧ But w C wx)
  case first =>
   have hlen0 : l.length ≤ 20 := hl20
   have halt : 0 ≤ x → a < n := fun h => by rw [← hl]; exact pk_lt (by rw [HX.out]; omega)
   have HERR := Lib.hid (fun (e : Int × Nat) (he : elemP L a l cu = .error e) => show R = .error e from HGO.out.trans (itemsF_err (by rw [HA.out]; exact he)))
   have HEND := Lib.hid (fun (he : elemP L a l cu = .ok none) => show R = .ok ((l, cu), a) by have := HGO.out.trans (itemsF_end (by rw [HA.out]; exact he)); rwa [HA.out] at this)
   clear HGO HP HPK
   by_cases h124 : x = 124
   ·as_aux_lemma =>
     subst h124
     by_cases hc : 0 ≤ cu
     ·have HRX := Lib.hid (HERR.out (5, a) (by unfold elemP; rw [if_pos HX.out, if_pos hc]))
      go_wp2_with fail
      refine (syn_fail 5 a _).mono ?_
      rintro e w5 ⟨rfl, rfl⟩
      go_wp2_with fail
      rw [HRX.out]
      exact ⟨rfl, rfl, HB3.out⟩
     ·have HEL := Lib.hid (show elemP L a l cu = .ok (some ((l, (l.length : Int)), a + 1)) by unfold elemP; rw [if_pos HX.out, if_neg hc])
      have hg : decide ((0 : Int) ≤ cu) = false := decide_eq_false hc
      obtain ⟨d1, d2, d3, d4⟩ := HJ3.out.cur.step (halt (by decide))
      have HJ4 := Lib.hid (HJ3.out.but d3 d4)
      have HB4 := Lib.hid (HB3.out.trans d4)
      have HO4 := Lib.hid (HO3.out.but d4 HJ3.out.lt)
      have hlt := halt (by decide)
      clear d3 d4
      go_wp2_with fail
      go_meet
      exact ⟨l, l.length, a + 1, HEL.out, hlt, by omega, by omega, by omega, rfl, HO4.out, HJ4.out, HB4.out⟩
   ·have q124 : (x == 124) = false := by rw [beq_eq_false_iff_ne]; exact h124
    by_cases h91 : x = 91
    ·
     as_aux_lemma =>
      subst h91
      have HE0 := Lib.hid (show elemP L a l cu = (match setP' L 20 a with | .error e => .error e | .ok (s, j) => .ok (some ((l ++ [⟨2, 0, s, noName⟩], cu), j))) by unfold elemP; rw [if_neg (by rw [HX.out]; decide), if_pos HX.out]; cases setP' L 20 a <;> rfl)
      have HST := Lib.hid (show Calls Tryz.prog 39 #[.pointer (some ⟨C, 0, none⟩), .int .i64 1] w3 (SetPost w3 C A n c L (setP' L 20 a)) from cur_set 20 1 w3 C A n c L a rfl (by decide) HJ3.out.cur HL.out hn)
      cases hs : setP' L 20 a with
      | error e0 =>
        obtain ⟨y, p⟩ := e0
        have HRX := Lib.hid (HERR.out (y, p) (by rw [HE0.out, hs]))
        rw [hs] at HST
        clear hs HE0
        go_wp2_with fail
        refine HST.out.mono ?_
        rintro e w5 ⟨he, hb5⟩
        unfold thrown at he
        subst he
        have HB5 := Lib.hid (HB3.out.trans hb5)
        clear hb5
        go_wp2_with fail
        rw [HRX.out]
        exact ⟨rfl, rfl, HB5.out⟩
      | ok q =>
        obtain ⟨t, j⟩ := q
        have HEL := Lib.hid (show elemP L a l cu = .ok (some ((l ++ [⟨2, 0, t, noName⟩], cu), j)) by rw [HE0.out, hs])
        have HTR := Lib.hid (setP_ok HL.out.ok 20 _ _ _ hs).2
        rw [hs] at HST
        clear hs HE0
        go_wp2_with fail
        refine HST.out.mono ?_
        rintro e w5 ⟨⟨B, m, d, rfl, hr, hd⟩, hc5, hb5⟩
        have HJ5 := Lib.hid (HJ3.out.but hc5 hb5)
        have HB5 := Lib.hid (HB3.out.trans hb5)
        have HO5 := Lib.hid (HO3.out.but hb5 HJ3.out.lt)
        have hm200 : m ≤ 200 := by have h1 := hr.1; rw [spanCells_length] at h1; have h2 := HTR.out.size; omega
        have hjn := hc5.le
        have hw3 := HB3.out.1
        have hCl := HJ3.out.lt
        have hb6 := (Below.refl w5.heap.size w5).alloc (Nat.le_refl _) (.cells #[.int .i64 2, .int .i32 0, .slice B m d, .string ⟨#[]⟩] 114)
        have HZ := Lib.hid (show ItemZ (w5.alloc (.cells #[.int .i64 2, .int .i32 0, .slice B m d, .string ⟨#[]⟩] 114)) (ItX w.heap.size C (.slice Av l.length cv)) ⟨2, 0, t, noName⟩ [.int .i64 2, .int .i32 0, .slice B m d, .string ⟨#[]⟩] from
         ⟨B, m, d, rfl, (hr.lift (X' := ItX w.heap.size C (.slice Av l.length cv)) (fun b (h : w3.heap.size ≤ b) => ⟨by omega, by omega, HO3.out.apart h⟩)).keep (Keeps.any hb6), hd, by simp only [maxLen]; omega⟩)
        have HO6 := Lib.hid (HO5.out.below hb6)
        have hw5 := HB5.out.1
        have HBW := Lib.hid (HB5.out.trans (But.below (w := w5) C hb6))
        have HJ6 := Lib.hid (HJ5.out.below (hb6.mono hw5))
        have hsz := HBW.out.1
        obtain ⟨ys, hown6, hpush⟩ := HO6.out.push ⟨2, 0, t, noName⟩ HZ.out rfl
        have HW6 := Lib.hid hown6
        have HPU := Lib.hid hpush
        have HN9 := Lib.hid (Rd.new w5 114 4 1 [.int .i64 2, .int .i32 0, .slice B m d, .string ⟨#[]⟩] rfl)
        have HON := Lib.hid (ItemZ.one HZ.out)
        clear hr hd hc5 hb5 hb6 hown6 hpush HST
        go_wp2_with (at_builtin; refine wpList_append_rd _ rfl (.tmp 43) (.tmp 49) 94 rfl w.heap.size 114 i0 _ 4 56 Tryz.underlying94 hii z0 z1 z2 rfl (by decide) _ _ _ rfl HW6.out (w5.heap.size + 1) (some ⟨w5.heap.size, 0, none⟩) 1 1 [.int .i64 2, .int .i32 0, .slice B m d, .string ⟨#[]⟩] rfl HN9.out HON.out (by simp only [maxLen]; omega) (by omega) hsz ?_)
        intro v' w9 happ
        have hb9 := happ.below hsz HW6.out
        have HJ9 := Lib.hid (HJ6.out.below hb9)
        have HB9 := Lib.hid (but_below HBW.out hb9)
        have HO9 := Lib.hid (HPU.out v' w9 happ)
        clear happ hb9
        go_wp2_with fail
        go_meet
        exact ⟨_, cu, j, HEL.out, hjn, hcu0, hcu1, by simp; omega, rfl, HO9.out, HJ9.out, HB9.out⟩
    ·have q91 : (x == 91) = false := by rw [beq_eq_false_iff_ne]; exact h91
     by_cases h36 : x = 36 ∧ letB (pk L (a + 1)) = true
     ·
      as_aux_lemma =>
       obtain ⟨hx36, hlet⟩ := h36
       subst hx36
       have hlt := halt (by decide)
       have HLT := Lib.hid (fun (W : World) => show Calls Tryz.prog 178 #[.int .i32 (pk L (a + 1))] W fun e w' => e = .returned (.bool true) ∧ w' = W by have := rd_letter (pk L (a + 1)) W; rwa [hlet] at this)
       have HE0 := Lib.hid (show elemP L a l cu = (match nameP L (a + 1) with | .error e => .error e | .ok (q, j) => .ok (some ((l ++ [⟨3, 0, [], q⟩], cu), j))) by unfold elemP; rw [HX.out, if_neg h124, if_neg h91, if_pos ⟨rfl, hlet⟩]; cases nameP L (a + 1) <;> rfl)
       go_wp2_with fail
       refine (cur_look2 _ C A n c L a 1 HJ3.out.cur (by decide)).mono ?_
       rintro e w4 ⟨rfl, hc4, hb4⟩
       have HJ4 := Lib.hid (HJ3.out.but hc4 hb4)
       have HB4 := Lib.hid (HB3.out.trans hb4)
       have HO4 := Lib.hid (HO3.out.but hb4 HJ3.out.lt)
       clear hc4 hb4
       go_wp2_with fail
       refine (HLT.out _).mono ?_
       rintro e w4b ⟨rfl, hw5⟩
       subst hw5
       obtain ⟨d1, d2, d3, d4⟩ := HJ4.out.cur.step hlt
       have HJ5 := Lib.hid (HJ4.out.but d3 d4)
       have HB5 := Lib.hid (HB4.out.trans d4)
       have HO5 := Lib.hid (HO4.out.but d4 HJ4.out.lt)
       clear d3 d4
       have HNM := Lib.hid (rd_name _ C A n c L (a + 1) HJ5.out.cur (by omega))
       cases hs : nameP L (a + 1) with
       | error e0 =>
         obtain ⟨y, p⟩ := e0
         have HRX := Lib.hid (HERR.out (y, p) (by rw [HE0.out, hs]))
         rw [hs] at HNM
         clear hs HE0
         go_wp2_with fail
         refine HNM.out.mono ?_
         rintro e w6 ⟨he, hb6⟩
         unfold thrown at he
         subst he
         have HB6 := Lib.hid (HB5.out.trans hb6)
         clear hb6
         go_wp2_with fail
         rw [HRX.out]
         exact ⟨rfl, rfl, HB6.out⟩
       | ok q =>
         obtain ⟨t, j⟩ := q
         have HEL := Lib.hid (show elemP L a l cu = .ok (some ((l ++ [⟨3, 0, [], t⟩], cu), j)) by rw [HE0.out, hs])
         rw [hs] at HNM
         clear hs HE0
         go_wp2_with fail
         refine HNM.out.mono ?_
         rintro e w6 ⟨rfl, hc6, hb6⟩
         have HJ6 := Lib.hid (HJ5.out.but hc6 hb6)
         have HB6 := Lib.hid (HB5.out.trans hb6)
         have HO6 := Lib.hid (HO5.out.but hb6 HJ5.out.lt)
         have hjn := hc6.le
         have hb7 := (Below.refl w6.heap.size w6).alloc (Nat.le_refl _) (.cells #[.int .i64 3, .int .i32 0, .slice none 0 0, .string t] 114)
         have HZ := Lib.hid (show ItemZ (w6.alloc (.cells #[.int .i64 3, .int .i32 0, .slice none 0 0, .string t] 114)) (ItX w.heap.size C (.slice Av l.length cv)) ⟨3, 0, [], t⟩ [.int .i64 3, .int .i32 0, .slice none 0 0, .string t] from
          ⟨none, 0, 0, rfl, ⟨rfl, fun h => absurd h (by omega)⟩, Nat.le_refl _, Nat.zero_le _⟩)
         have HO7 := Lib.hid (HO6.out.below hb7)
         have hw6 := HB6.out.1
         have HBW := Lib.hid (HB6.out.trans (But.below (w := w6) C hb7))
         have HJ7 := Lib.hid (HJ6.out.below (hb7.mono hw6))
         have hsz := HBW.out.1
         obtain ⟨ys, hown6, hpush⟩ := HO7.out.push ⟨3, 0, [], t⟩ HZ.out rfl
         have HW6 := Lib.hid hown6
         have HPU := Lib.hid hpush
         have HN9 := Lib.hid (Rd.new w6 114 4 1 [.int .i64 3, .int .i32 0, .slice none 0 0, .string t] rfl)
         have HON := Lib.hid (ItemZ.one HZ.out)
         clear hc6 hb6 hb7 hown6 hpush HNM
         go_wp2_with (at_builtin; refine wpList_append_rd _ rfl (.tmp 70) (.tmp 74) 94 rfl w.heap.size 114 i0 _ 4 56 Tryz.underlying94 hii z0 z1 z2 rfl (by decide) _ _ _ rfl HW6.out (w6.heap.size + 1) (some ⟨w6.heap.size, 0, none⟩) 1 1 [.int .i64 3, .int .i32 0, .slice none 0 0, .string t] rfl HN9.out HON.out (by simp only [maxLen]; omega) (by omega) hsz ?_)
         intro v' w9 happ
         have hb9 := happ.below hsz HW6.out
         have HJ9 := Lib.hid (HJ7.out.below hb9)
         have HB9 := Lib.hid (but_below HBW.out hb9)
         have HO9 := Lib.hid (HPU.out v' w9 happ)
         clear happ hb9
         go_wp2_with fail
         go_meet
         exact ⟨_, cu, j, HEL.out, hjn, hcu0, hcu1, by simp; omega, rfl, HO9.out, HJ9.out, HB9.out⟩
     ·by_cases h39 : x = 39
      ·
       as_aux_lemma =>
        subst h39
        have hlt := halt (by decide)
        have HQ := Lib.hid (rd_quoted w3 C A n c L a HJ3.out.cur hlt hn)
        have HE0 := Lib.hid (show elemP L a l cu = (match quotedP L a with | .error e => .error e | .ok (q, j) => .ok (some ((l ++ q, cu), j))) by unfold elemP; rw [HX.out, if_neg h124, if_neg h91, if_neg h36, if_pos rfl]; cases quotedP L a <;> rfl)
        go_wp2_with fail
        refine HQ.out.mono ?_
        rintro e w5 (⟨hq, ⟨B, m, d, rfl, hr, hd, hm⟩, hc5, hb5⟩ | ⟨hq, he, hb5⟩)
        ·have HEL := Lib.hid (show elemP L a l cu = .ok (some ((l ++ (textAt L (a + 1) (runFrom notQ L (a + 1))).map runeI, cu), runFrom notQ L (a + 1) + 1)) by rw [HE0.out]; unfold quotedP; rw [if_pos hq])
         generalize runFrom notQ L (a + 1) = r at *
         generalize textAt L (a + 1) r = rs at *
         have hrs : rs.length = m := by
          have h1 := hr.1
          have h2 : ∀ l : List Int, (qCells l).length = l.length * 4 := by
           intro l
           induction l with
           | nil => rfl
           | cons y l ih => show ([_, _, _, _] ++ qCells l).length = _; rw [List.length_append, ih]; simp; omega
          rw [h2] at h1
          omega
         have HJ5 := Lib.hid (HJ3.out.but hc5 hb5)
         have HB5 := Lib.hid (HB3.out.trans hb5)
         have HO5 := Lib.hid (HO3.out.but hb5 HJ3.out.lt)
         have hjn := hc5.le
         have hsz := HB5.out.1
         obtain ⟨ys, hown6, hpush⟩ := HO5.out.runes rs
         rw [hrs] at hpush
         have HW6 := Lib.hid hown6
         have HPU := Lib.hid hpush
         have HRD := Lib.hid hr.of
         have HON := Lib.hid (show ∀ u ∈ qCells rs, u.oneCell' = true by
          intro u hu
          unfold qCells at hu
          obtain ⟨y, _, hy⟩ := List.mem_flatMap.1 hu
          exact q_one y u hy)
         clear hr hd hc5 hb5 hown6 hpush HQ HE0
         go_wp2_with (at_builtin; refine wpList_append_rd _ rfl (.tmp 79) (.tmp 81) 94 rfl w.heap.size 114 i0 _ 4 56 Tryz.underlying94 hii z0 z1 z2 rfl (by decide) _ _ _ rfl HW6.out w5.heap.size B m d (qCells rs) rfl HRD.out HON.out (by simp only [maxLen]; omega) (by omega) hsz ?_)
         intro v' w9 happ
         have hb9 := happ.below hsz HW6.out
         have HJ9 := Lib.hid (HJ5.out.below hb9)
         have HB9 := Lib.hid (but_below HB5.out hb9)
         have HO9 := Lib.hid (HPU.out v' w9 happ)
         clear happ hb9
         go_wp2_with fail
         go_meet
         exact ⟨_, cu, r + 1, HEL.out, hjn, hcu0, hcu1, by simp; omega, rfl, HO9.out, HJ9.out, HB9.out⟩
        ·unfold thrown at he
         subst he
         have HRX := Lib.hid (HERR.out (2, runFrom notQ L (a + 1)) (by rw [HE0.out]; unfold quotedP; rw [if_neg hq]))
         have HB5 := Lib.hid (HB3.out.trans hb5)
         clear hb5
         go_wp2_with fail
         rw [HRX.out]
         exact ⟨rfl, rfl, HB5.out⟩
      ·have q39 : (x == 39) = false := by rw [beq_eq_false_iff_ne]; exact h39
       by_cases h92 : x = 92 ∨ plainB x = true
       ·have HE0 := Lib.hid (show elemP L a l cu = (match charP L a with | .error e => .error e | .ok (y, j) => if rightB y = true then .ok (some ((l ++ [runeI y], cu), j)) else .error (3, a)) by unfold elemP; rw [HX.out, if_neg h124, if_neg h91, if_neg h36, if_neg h39, if_pos h92]; cases charP L a <;> rfl)
        have HCH := Lib.hid (fun (W : World) (h : CurAt W C A n c L a) => cur_char W C A n c L a h HL.out)
        by_cases hx92 : x = 92
        ·as_aux_lemma =>
         subst hx92
         have HJ6 := HJ3
         have HB6 := HB3
         have HO6 := HO3
         cases hs : charP L a with
         | error e0 =>
           obtain ⟨y, p⟩ := e0
           have HRX := Lib.hid (HERR.out (y, p) (by rw [HE0.out, hs]))
           rw [hs] at HCH
           clear hs HE0
           go_wp2_with fail
           refine (HCH.out _ HJ6.out.cur).mono ?_
           rintro e w7 ⟨he, hb7⟩
           unfold thrown at he
           subst he
           have HB7 := Lib.hid (HB6.out.trans hb7)
           clear hb7
           go_wp2_with fail
           rw [HRX.out]
           exact ⟨rfl, rfl, HB7.out⟩
         | ok q =>
           obtain ⟨y, j⟩ := q
           rw [hs] at HCH
           have HE1 := Lib.hid (show elemP L a l cu = if rightB y = true then .ok (some ((l ++ [runeI y], cu), j)) else .error (3, a) by rw [HE0.out, hs])
           clear hs HE0
           go_wp2_with fail
           refine (HCH.out _ HJ6.out.cur).mono ?_
           rintro e w7 ⟨rfl, hc7, hb7⟩
           have HJ7 := Lib.hid (HJ6.out.but hc7 hb7)
           have HB7 := Lib.hid (HB6.out.trans hb7)
           have HO7 := Lib.hid (HO6.out.but hb7 HJ6.out.lt)
           have hjn := hc7.le
           clear hc7 hb7
           cases hr : rightB y with
           | false =>
             have HRX := Lib.hid (HERR.out (3, a) (by rw [HE1.out, hr]; rfl))
             have HRT := Lib.hid (fun (W : World) => show Calls Tryz.prog 87 #[.int .i32 y] W fun e w' => e = .returned (.bool false) ∧ W = w' by have := runes_right y W; rwa [hr] at this)
             clear hr
             go_wp2_with fail
             refine (HRT.out _).mono ?_
             rintro e w8 ⟨rfl, hw8⟩
             subst hw8
             go_wp2_with fail
             refine (syn_fail 3 a _).mono ?_
             rintro e w9 ⟨rfl, rfl⟩
             go_wp2_with fail
             rw [HRX.out]
             exact ⟨rfl, rfl, HB7.out⟩
           | true =>
             have HEL := Lib.hid (show elemP L a l cu = .ok (some ((l ++ [runeI y], cu), j)) by rw [HE1.out, hr]; rfl)
             have HRT := Lib.hid (fun (W : World) => show Calls Tryz.prog 87 #[.int .i32 y] W fun e w' => e = .returned (.bool true) ∧ W = w' by have := runes_right y W; rwa [hr] at this)
             clear hr
             have hb8 := (Below.refl w7.heap.size w7).alloc (Nat.le_refl _) (.cells #[.int .i64 1, .int .i32 y, .slice none 0 0, .string ⟨#[]⟩] 114)
             have HZ := Lib.hid (runeI_z (w7.alloc (.cells #[.int .i64 1, .int .i32 y, .slice none 0 0, .string ⟨#[]⟩] 114)) (ItX w.heap.size C (.slice Av l.length cv)) y)
             have HO8 := Lib.hid (HO7.out.below hb8)
             have hw7 := HB7.out.1
             have HBW := Lib.hid (HB7.out.trans (But.below (w := w7) C hb8))
             have HJ8 := Lib.hid (HJ7.out.below (hb8.mono hw7))
             have hsz := HBW.out.1
             obtain ⟨ys, hown8, hpush⟩ := HO8.out.push (runeI y) HZ.out rfl
             have HW8 := Lib.hid hown8
             have HPU := Lib.hid hpush
             have HN9 := Lib.hid (Rd.new w7 114 4 1 [.int .i64 1, .int .i32 y, .slice none 0 0, .string ⟨#[]⟩] rfl)
             have HON := Lib.hid (ItemZ.one HZ.out)
             clear hb8 hown8 hpush HCH
             go_wp2_with fail
             refine (HRT.out _).mono ?_
             rintro e w8 ⟨rfl, hw8⟩
             subst hw8
             go_wp2_with (at_builtin; refine wpList_append_rd _ rfl (.tmp 99) (.tmp 102) 94 rfl w.heap.size 114 i0 _ 4 56 Tryz.underlying94 hii z0 z1 z2 rfl (by decide) _ _ _ rfl HW8.out (w7.heap.size + 1) (some ⟨w7.heap.size, 0, none⟩) 1 1 [.int .i64 1, .int .i32 y, .slice none 0 0, .string ⟨#[]⟩] rfl HN9.out HON.out (by simp only [maxLen]; omega) (by omega) hsz ?_)
             intro v' w9 happ
             have hb9 := happ.below hsz HW8.out
             have HJ9 := Lib.hid (HJ8.out.below hb9)
             have HB9 := Lib.hid (but_below HBW.out hb9)
             have HO9 := Lib.hid (HPU.out v' w9 happ)
             clear happ hb9
             go_wp2_with fail
             go_meet
             exact ⟨_, cu, j, HEL.out, hjn, hcu0, hcu1, by simp; omega, rfl, HO9.out, HJ9.out, HB9.out⟩
        ·as_aux_lemma =>
         have q92 : (x == 92) = false := by rw [beq_eq_false_iff_ne]; exact hx92
         have hpl : plainB x = true := h92.resolve_left hx92
         have hx36 : x ≠ 36 := by rintro rfl; exact absurd hpl (by decide)
         have q36 : (x == 36) = false := by rw [beq_eq_false_iff_ne]; exact hx36
         have HPL := Lib.hid (fun (W : World) => show Calls Tryz.prog 128 #[.int .i32 x] W fun e w' => e = .returned (.bool true) ∧ Below W.heap.size W w' by
          have := syn_plain (pk L a) W (HL.out.pk a)
          rwa [HX.out, hpl] at this)
         go_wp2_with fail
         refine (HPL.out _).mono ?_
         rintro e w6 ⟨rfl, hb6⟩
         have HJ6 := Lib.hid (HJ3.out.but (HJ3.out.cur.below hb6) (But.below C hb6))
         have HB6 := Lib.hid (HB3.out.trans (But.below C hb6))
         have HO6 := Lib.hid (HO3.out.below hb6)
         clear hb6 hpl
         cases hs : charP L a with
         | error e0 =>
           obtain ⟨y, p⟩ := e0
           have HRX := Lib.hid (HERR.out (y, p) (by rw [HE0.out, hs]))
           rw [hs] at HCH
           clear hs HE0
           go_wp2_with fail
           refine (HCH.out _ HJ6.out.cur).mono ?_
           rintro e w7 ⟨he, hb7⟩
           unfold thrown at he
           subst he
           have HB7 := Lib.hid (HB6.out.trans hb7)
           clear hb7
           go_wp2_with fail
           rw [HRX.out]
           exact ⟨rfl, rfl, HB7.out⟩
         | ok q =>
           obtain ⟨y, j⟩ := q
           rw [hs] at HCH
           have HE1 := Lib.hid (show elemP L a l cu = if rightB y = true then .ok (some ((l ++ [runeI y], cu), j)) else .error (3, a) by rw [HE0.out, hs])
           clear hs HE0
           go_wp2_with fail
           refine (HCH.out _ HJ6.out.cur).mono ?_
           rintro e w7 ⟨rfl, hc7, hb7⟩
           have HJ7 := Lib.hid (HJ6.out.but hc7 hb7)
           have HB7 := Lib.hid (HB6.out.trans hb7)
           have HO7 := Lib.hid (HO6.out.but hb7 HJ6.out.lt)
           have hjn := hc7.le
           clear hc7 hb7
           cases hr : rightB y with
           | false =>
             have HRX := Lib.hid (HERR.out (3, a) (by rw [HE1.out, hr]; rfl))
             have HRT := Lib.hid (fun (W : World) => show Calls Tryz.prog 87 #[.int .i32 y] W fun e w' => e = .returned (.bool false) ∧ W = w' by have := runes_right y W; rwa [hr] at this)
             clear hr
             go_wp2_with fail
             refine (HRT.out _).mono ?_
             rintro e w8 ⟨rfl, hw8⟩
             subst hw8
             go_wp2_with fail
             refine (syn_fail 3 a _).mono ?_
             rintro e w9 ⟨rfl, rfl⟩
             go_wp2_with fail
             rw [HRX.out]
             exact ⟨rfl, rfl, HB7.out⟩
           | true =>
             have HEL := Lib.hid (show elemP L a l cu = .ok (some ((l ++ [runeI y], cu), j)) by rw [HE1.out, hr]; rfl)
             have HRT := Lib.hid (fun (W : World) => show Calls Tryz.prog 87 #[.int .i32 y] W fun e w' => e = .returned (.bool true) ∧ W = w' by have := runes_right y W; rwa [hr] at this)
             clear hr
             have hb8 := (Below.refl w7.heap.size w7).alloc (Nat.le_refl _) (.cells #[.int .i64 1, .int .i32 y, .slice none 0 0, .string ⟨#[]⟩] 114)
             have HZ := Lib.hid (runeI_z (w7.alloc (.cells #[.int .i64 1, .int .i32 y, .slice none 0 0, .string ⟨#[]⟩] 114)) (ItX w.heap.size C (.slice Av l.length cv)) y)
             have HO8 := Lib.hid (HO7.out.below hb8)
             have hw7 := HB7.out.1
             have HBW := Lib.hid (HB7.out.trans (But.below (w := w7) C hb8))
             have HJ8 := Lib.hid (HJ7.out.below (hb8.mono hw7))
             have hsz := HBW.out.1
             obtain ⟨ys, hown8, hpush⟩ := HO8.out.push (runeI y) HZ.out rfl
             have HW8 := Lib.hid hown8
             have HPU := Lib.hid hpush
             have HN9 := Lib.hid (Rd.new w7 114 4 1 [.int .i64 1, .int .i32 y, .slice none 0 0, .string ⟨#[]⟩] rfl)
             have HON := Lib.hid (ItemZ.one HZ.out)
             clear hb8 hown8 hpush HCH
             go_wp2_with fail
             refine (HRT.out _).mono ?_
             rintro e w8 ⟨rfl, hw8⟩
             subst hw8
             go_wp2_with (at_builtin; refine wpList_append_rd _ rfl (.tmp 99) (.tmp 102) 94 rfl w.heap.size 114 i0 _ 4 56 Tryz.underlying94 hii z0 z1 z2 rfl (by decide) _ _ _ rfl HW8.out (w7.heap.size + 1) (some ⟨w7.heap.size, 0, none⟩) 1 1 [.int .i64 1, .int .i32 y, .slice none 0 0, .string ⟨#[]⟩] rfl HN9.out HON.out (by simp only [maxLen]; omega) (by omega) hsz ?_)
             intro v' w9 happ
             have hb9 := happ.below hsz HW8.out
             have HJ9 := Lib.hid (HJ8.out.below hb9)
             have HB9 := Lib.hid (but_below HBW.out hb9)
             have HO9 := Lib.hid (HPU.out v' w9 happ)
             clear happ hb9
             go_wp2_with fail
             go_meet
             exact ⟨_, cu, j, HEL.out, hjn, hcu0, hcu1, by simp; omega, rfl, HO9.out, HJ9.out, HB9.out⟩
       ·as_aux_lemma =>
         have HRX := Lib.hid (HEND.out (by unfold elemP; rw [HX.out, if_neg h124, if_neg h91, if_neg h36, if_neg h39, if_neg h92]))
         have q92 : (x == 92) = false := by rw [beq_eq_false_iff_ne]; exact fun h => h92 (.inl h)
         have HPL := Lib.hid (fun (W : World) => show Calls Tryz.prog 128 #[.int .i32 x] W fun e w' => e = .returned (.bool false) ∧ Below W.heap.size W w' by
          have := syn_plain (pk L a) W (HL.out.pk a)
          rwa [HX.out, show plainB x = false from by rw [Bool.eq_false_iff]; exact fun h => h92 (.inr h)] at this)
         by_cases hx36 : x = 36
         ·subst hx36
          have hlet : letB (pk L (a + 1)) = false := by rw [Bool.eq_false_iff]; exact fun h => h36 ⟨rfl, h⟩
          have HLT := Lib.hid (fun (W : World) => show Calls Tryz.prog 178 #[.int .i32 (pk L (a + 1))] W fun e w' => e = .returned (.bool false) ∧ w' = W by have := rd_letter (pk L (a + 1)) W; rwa [hlet] at this)
          go_wp2_with fail
          refine (cur_look2 _ C A n c L a 1 HJ3.out.cur (by decide)).mono ?_
          rintro e w4 ⟨rfl, hc4, hb4⟩
          have HJ4 := Lib.hid (HJ3.out.but hc4 hb4)
          have HB4 := Lib.hid (HB3.out.trans hb4)
          have HO4 := Lib.hid (HO3.out.but hb4 HJ3.out.lt)
          clear hc4 hb4
          go_wp2_with fail
          refine (HLT.out _).mono ?_
          rintro e w5 ⟨rfl, hw5⟩
          subst hw5
          go_wp2_with fail
          refine (HPL.out _).mono ?_
          rintro e w6 ⟨rfl, hb6⟩
          have HJ6 := Lib.hid (HJ4.out.but (HJ4.out.cur.below hb6) (But.below C hb6))
          have HB6 := Lib.hid (HB4.out.trans (But.below C hb6))
          have HO6 := Lib.hid (HO4.out.below hb6)
          clear hb6
          go_wp2_with fail
          go_ret2
          rw [HRX.out]
          exact ⟨⟨_, rfl, HO6.out, hl20⟩, HJ6.out.cur, HB6.out⟩
         ·have q36 : (x == 36) = false := by rw [beq_eq_false_iff_ne]; exact hx36
          go_wp2_with fail
          refine (HPL.out _).mono ?_
          rintro e w6 ⟨rfl, hb6⟩
          have HJ6 := Lib.hid (HJ3.out.but (HJ3.out.cur.below hb6) (But.below C hb6))
          have HB6 := Lib.hid (HB3.out.trans (But.below C hb6))
          have HO6 := Lib.hid (HO3.out.below hb6)
          clear hb6
          go_wp2_with fail
          go_ret2
          rw [HRX.out]
          exact ⟨⟨_, rfl, HO6.out, hl20⟩, HJ6.out.cur, HB6.out⟩
  case rest =>
   obtain ⟨o, c', j, hel, hjn, hc0, hc1, hol, rfl, ho, hcj, hbj⟩ := hcut
   have hst := HGO.out.trans (itemsF_step (by rw [HA.out]; exact hel))
   rw [HA.out] at hst
   have haj := (elemP_ok HL.out.ok hel).1
   obtain ⟨Ao, co, rfl, _⟩ := ho.form
   have HOO := Lib.hid ho
   have HJJ := Lib.hid hcj
   have HBB := Lib.hid hbj
   clear hel ho hcj hbj k1
   by_cases h20 : 20 < o.length
   ·rw [if_pos h20] at hst
    have HST := Lib.hid hst
    have hg : decide ((20 : Int) < (o.length : Int)) = true := decide_eq_true (by omega)
    generalize o.length = ol at *
    clear hst
    go_wp2_with fail
    refine (syn_fail 5 a _).mono ?_
    rintro e w5 ⟨rfl, rfl⟩
    go_wp2_with fail
    rw [HST.out]
    exact ⟨rfl, rfl, HBB.out⟩
   ·rw [if_neg h20] at hst
    have HST := Lib.hid hst
    have hg : decide ((20 : Int) < (o.length : Int)) = false := decide_eq_false (by omega)
    have HSP := Lib.hid (rd_space _ C A n c L j HJJ.out.cur)
    have HGE := Lib.hid (spaceP_ge L j)
    clear hst
    go_wp2_with fail
    refine HSP.out.mono ?_
    rintro e w5 ⟨rfl, hc5, hb5⟩
    have HJ5 := Lib.hid (HJJ.out.but hc5 hb5)
    have HB5 := Lib.hid (HBB.out.trans hb5)
    have HO5 := Lib.hid (HOO.out.but hb5 HJJ.out.lt)
    clear hc5 hb5
    go_wp2_with fail
    refine ⟨⟨f, j, o, c', hjn, by omega, HST.out, by omega, hc0, hc1, rfl, HO5.out, HJ5.out, HB5.out⟩, ?_⟩
    have e1 : w5.cell? ⟨C, 1, none⟩ = some (.int .i64 ((spaceP L j : Nat) : Int)) := HJ5.out.cur.blk.cell 1
    have e2 := HM0.out
    have hle := HJ5.out.cur.le
    have hge := HGE.out
    rw [e1, e2]
    simp only [Int.toNat_natCast, List.getElem?_toArray, List.getElem?_cons_succ, List.getElem?_cons_zero]
    omega
end Go.Proofs.YthnhbcohfoodlaaGreatDoor

namespace Go.Proofs.YthnhbcohfoodlaaGreatDoor
open Go.RowKit
def ItemsZ (w : World) (X : Nat → Prop) (u : Value) (l : List ItemD) : Prop := ∃ A n c, u = .slice A n c ∧ ListX (ItemZ w X) w X 4 A n l ∧ n ≤ c ∧ n ≤ 100
theorem ItemsZ.keep {w w' : World} {X X' : Nat → Prop} (hk : Keeps w X w' X') {u : Value} {l : List ItemD} (h : ItemsZ w X u l) : ItemsZ w' X' u l := by
 obtain ⟨A, n, c, e, h1, h2⟩ := h
 exact ⟨A, n, c, e, h1.keep hk (ItemZ.keep hk), h2⟩
theorem ItemsZ.nil (w : World) (X : Nat → Prop) : ItemsZ w X (.slice none 0 0) [] := ⟨none, 0, 0, rfl, ⟨[], rfl, rfl, by simp, by simp, ⟨by simp, fun h => absurd h (Nat.lt_irrefl 0)⟩⟩, Nat.le_refl _, Nat.zero_le _⟩
theorem ItemsZ.of {w : World} {lo lo0 C : Nat} {v : Value} {l : List ItemD} (h : ItOwn lo C w v l) (hn : l.length ≤ 20) (hlo : lo0 ≤ lo) (hC : C < lo) : ItemsZ w (fun b => lo0 ≤ b ∧ b ≠ C) v l := by
 obtain ⟨A, c, rfl, hc⟩ := h.form
 have hh := h
 obtain ⟨css, g1, g2, g3, g4⟩ := hh
 refine ⟨A, _, c, rfl, OwnL.done h (ItemZ.keep (Keeps.refl (fun b hb => ⟨Nat.le_trans hlo hb.1, hb.2.1⟩))) (fun b hb => ?_), hc, by omega⟩
 have := (own_lt g4 hb).1
 exact ⟨by omega, by omega⟩
theorem ItemsZ.form {w : World} {X : Nat → Prop} {u : Value} {l : List ItemD} (h : ItemsZ w X u l) : ∃ A n c, u = .slice A n c ∧ l.length = n := by
 obtain ⟨A, n, c, e, h1, _⟩ := h
 exact ⟨A, n, c, e, h1.len⟩
structure SdFr (w : World) (C : Nat) (A : Option Addr) (n c : Nat) (L : List Int) (wr : World) (j : Nat) (cs : Array Value) : Prop where
 cur : CurLo w.heap.size wr C A n c L j
 but : But w C wr
 box : Blk wr (w.heap.size + 1) 96 cs
 res : Blk wr w.heap.size 96 #[.bool false, .bool false, .slice none 0 0, .slice none 0 0, .slice none 0 0, .int .i64 0]
section
variable {w wr w' : World} {C : Nat} {A : Option Addr} {n c : Nat} {L : List Int} {j j' : Nat} {cs : Array Value}
theorem SdFr.step (h : SdFr w C A n c L wr j cs) (hc : CurAt w' C A n c L j') (hb : But wr C w') : SdFr w C A n c L w' j' cs := by
 have hC := h.cur.lt
 exact ⟨h.cur.but hc hb, h.but.trans hb, (hb.2.2.2.2 _ h.box.lt (by omega)).trans h.box, (hb.2.2.2.2 _ h.res.lt (by omega)).trans h.res⟩
theorem SdFr.put (h : SdFr w C A n c L wr j cs) (k : Nat) (u : Value) : SdFr w C A n c L (wr.setCell ⟨w.heap.size + 1, k, none⟩ u) j (cs.setIfInBounds k u) := by
 have hb := (But.set wr (w.heap.size + 1) k u)
 have hb2 := hb.to (B := w.heap.size) h.but.1 (Nat.le_succ _)
 exact ⟨h.cur.below hb2, but_below h.but hb2, h.box.put k u, (hb.2.2.2.2 _ h.res.lt (by omega)).trans h.res⟩
theorem ItemsZ.step {u : Value} {l : List ItemD} {lo : Nat} (h : ItemsZ wr (fun b => lo ≤ b ∧ b ≠ C) u l) (hb : But wr C w') : ItemsZ w' (fun b => lo ≤ b ∧ b ≠ C) u l := h.keep (hb.keeps (fun _ h => h.2) (fun _ h _ => h))
theorem ItemsZ.put {u x : Value} {l : List ItemD} {lo k : Nat} (h : ItemsZ wr (fun b => lo + 2 ≤ b ∧ b ≠ C) u l) : ItemsZ (wr.setCell ⟨lo + 1, k, none⟩ x) (fun b => lo + 2 ≤ b ∧ b ≠ C) u l :=
 h.keep (Keeps.setCell x (fun b hb => by have := hb.1; show b ≠ lo + 1; omega) (fun _ h _ => h))
end
def SdPost (w : World) (C : Nat) (A : Option Addr) (n c : Nat) (L : List Int) (r : Rdg SideD) (e : Ending) (w' : World) : Prop :=
 match r with
 | .ok (d, j) => (∃ u1 u2 u3, e = .returned (.agg #[.bool d.start, .bool d.fin, u1, u2, u3, .int .i64 d.cursor]) ∧ ItemsZ w' (fun b => w.heap.size + 2 ≤ b ∧ b ≠ C) u1 d.before ∧ ItemsZ w' (fun b => w.heap.size + 2 ≤ b ∧ b ≠ C) u2 d.source ∧ ItemsZ w' (fun b => w.heap.size + 2 ≤ b ∧ b ≠ C) u3 d.after) ∧ CurAt w' C A n c L j ∧ But w C w'
 | .error (x, p) => e = thrown x p ∧ But w C w'
theorem itemsR_cur {L : List Int} {j : Nat} {l : List ItemD} {cu : Int} : ∀ (f : Nat) (i : Nat) (out : List ItemD) (cur : Int), out.length ≤ 20 → -1 ≤ cur → cur ≤ 20 → itemsF L f i out cur = .ok ((l, cu), j) → -1 ≤ cu ∧ cu ≤ 20 := by
 intro f
 induction f with
 | zero => intro i out cur _ _ _ h; rw [itemsF] at h; cases h
 | succ f ih =>
   intro i out cur hn h1 h2 h
   rw [itemsF] at h
   cases he : elemP L (spaceP L i) out cur with
   | error e => rw [he] at h; cases h
   | ok q =>
     rw [he] at h
     cases q with
     | none => simp only at h; injection h with h; injection h with h h3; injection h with h4 h5; omega
     | some q =>
       obtain ⟨⟨o, c⟩, k⟩ := q
       simp only at h
       by_cases h20 : 20 < o.length
       ·rw [if_pos h20] at h; cases h
       ·rw [if_neg h20] at h
        refine ih k o c (by omega) ?_ ?_ h <;>
        ·unfold elemP at he
         repeat' (split at he)
         all_goals first | (cases he; done) | (injection he with he; cases he; done) | (injection he with he; injection he with he; injection he with h3 h4; injection h3 with h5 h6; omega)
end Go.Proofs.YthnhbcohfoodlaaGreatDoor
