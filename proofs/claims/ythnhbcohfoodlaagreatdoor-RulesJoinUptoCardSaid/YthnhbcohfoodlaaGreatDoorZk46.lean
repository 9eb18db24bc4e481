/- RdPartFr + RdPartA + RdPartB + RdPartC + RdPart -/
import Derived.Test.YthnhbcohfoodlaaGreatDoorZk42
import Derived.Test.YthnhbcohfoodlaaGreatDoorZk45
import Derived.Test.YthnhbcohfoodlaaGreatDoorZk22
import Derived.Test.YthnhbcohfoodlaaGreatDoorZk30
import Derived.Deep.DeepCutAuto
namespace Go.Proofs.YthnhbcohfoodlaaGreatDoor
open Go.RowKit
theorem ItemsZ.toX {w : World} {X : Nat → Prop} {u : Value} {l : List ItemD} (h : ItemsZ w X u l) (hg : ∀ a ∈ l, ItG a) : ∃ A n c, u = .slice A n c ∧ ItemsX w X A n l ∧ n ≤ maxLen := by
  obtain ⟨A, n, c, rfl, ⟨css, h1, h2, h3, h4, h5⟩, _, hn⟩ := h
  refine ⟨A, n, c, rfl, ⟨css, h1, h2, fun i a cs ha hc => ?_, h4, h5⟩, by unfold maxLen; omega⟩
  obtain ⟨A', n', c', e, g1, g2, g3⟩ := h3 i a cs ha hc
  obtain ⟨_, k1, k2⟩ := hg a (List.mem_of_getElem? ha)
  exact ⟨A', n', c', e, g1, g3, by unfold i64R; omega, by unfold maxLen; omega⟩
theorem side_cur {L : List Int} {i : Nat} {v : SideD} {j : Nat} (h : sideR L i = .ok (v, j)) : -1 ≤ v.cursor ∧ v.cursor ≤ 20 := by
  have one : ∀ {i : Nat} {l : List ItemD} {c : Int} {j : Nat}, itemsR L i = .ok ((l, c), j) → -1 ≤ c ∧ c ≤ 20 := fun h => itemsR_cur _ _ _ _ (Nat.zero_le _) (by decide) (by decide) h
  unfold sideR at h
  cases hh : headR L (decide (pk L (spaceP L i) = 94)) (if pk L (spaceP L i) = 94 then spaceP L i + 1 else spaceP L i) with
  | error e => rw [hh] at h; cases h
  | ok q =>
    obtain ⟨⟨b, s, c⟩, j1⟩ := q
    rw [hh] at h
    simp only at h
    have h1 : -1 ≤ c ∧ c ≤ 20 := by
      unfold headR at hh
      cases hi : itemsR L (if pk L (spaceP L i) = 94 then spaceP L i + 1 else spaceP L i) with
      | error e => rw [hi] at hh; cases hh
      | ok q =>
        obtain ⟨⟨l, c1⟩, j2⟩ := q
        rw [hi] at hh
        simp only at hh
        split at hh
        · split at hh
          · cases hh
          · cases hi2 : itemsR L (j2 + 1) with
            | error e => rw [hi2] at hh; cases hh
            | ok q =>
              obtain ⟨⟨l2, c2⟩, j3⟩ := q
              rw [hi2] at hh
              simp only at hh
              injection hh with hh; injection hh with hh hh2; injection hh with hh3 hh4; injection hh4 with hh5 hh6
              subst hh6
              exact one hi2
        · split at hh
          · cases hh
          · injection hh with hh; injection hh with hh hh2; injection hh with hh3 hh4; injection hh4 with hh5 hh6
            subst hh6
            exact one hi
    cases ht : tailR L j1 with
    | error e => rw [ht] at h; cases h
    | ok q =>
      obtain ⟨⟨a, fin⟩, k⟩ := q
      rw [ht] at h
      simp only at h
      injection h with h; injection h with h3 h4
      subst h3
      exact h1
def SxPost (w : World) (C : Nat) (A : Option Addr) (n c : Nat) (L : List Int) (r : Rdg SideD) (e : Ending) (w' : World) : Prop :=
  match r with
  | .ok (d, j) => (∃ A1 n1 c1 A2 n2 c2 A3 n3 c3, e = .returned (.agg #[.bool d.start, .bool d.fin, .slice A1 n1 c1, .slice A2 n2 c2, .slice A3 n3 c3, .int .i64 d.cursor]) ∧ SideX w' (fun b => w.heap.size ≤ b ∧ b ≠ C) d [.bool d.start, .bool d.fin, .slice A1 n1 c1, .slice A2 n2 c2, .slice A3 n3 c3, .int .i64 d.cursor]) ∧ CurAt w' C A n c L j ∧ But w C w'
  | .error (x, p) => e = thrown x p ∧ But w C w'
theorem rd_side_x (w : World) (C : Nat) (A : Option Addr) (n c : Nat) (L : List Int) (i : Nat) (h : CurAt w C A n c L i) (hL : ValidL L) (hn : n ≤ 100000) :
    Calls Tryz.prog 100 #[.pointer (some ⟨C, 0, none⟩)] w (SxPost w C A n c L (sideR L i)) := by
  refine (rd_side w C A n c L i h hL hn).mono ?_
  intro e w' hp
  cases hr : sideR L i with
  | error e0 => rw [hr] at hp; exact hp
  | ok q =>
    obtain ⟨d, j⟩ := q
    rw [hr] at hp
    obtain ⟨⟨u1, u2, u3, he, h1, h2, h3⟩, hc, hb⟩ := hp
    obtain ⟨g1, g2, g3⟩ := sideR_good hr
    have hk : Keeps w' (fun b => w.heap.size + 2 ≤ b ∧ b ≠ C) w' (fun b => w.heap.size ≤ b ∧ b ≠ C) := Keeps.refl (fun b hb => ⟨by have := hb.1; omega, hb.2⟩)
    obtain ⟨A1, n1, c1, rfl, x1, m1⟩ := (h1.keep hk).toX g1
    obtain ⟨A2, n2, c2, rfl, x2, m2⟩ := (h2.keep hk).toX g2
    obtain ⟨A3, n3, c3, rfl, x3, m3⟩ := (h3.keep hk).toX g3
    have hcu := side_cur hr
    exact ⟨⟨A1, n1, c1, A2, n2, c2, A3, n3, c3, he, A1, n1, c1, A2, n2, c2, A3, n3, c3, rfl, x1, x2, x3, m1, m2, m3, by unfold i64R; omega⟩, hc, hb⟩
structure PtFr (w : World) (C : Nat) (A : Option Addr) (n c : Nat) (L : List Int) (wr : World) (j : Nat) : Prop where
  cur : CurLo w.heap.size wr C A n c L j
  but : But w C wr
  res : Blk wr w.heap.size 98 #[.int .i64 0, .string ⟨#[]⟩, .slice none 0 0, .int .i64 0, .bool false, .bool false, .slice none 0 0, .slice none 0 0, .slice none 0 0, .int .i64 0, .bool false, .bool false, .slice none 0 0, .slice none 0 0, .slice none 0 0, .int .i64 0]
section
variable {w wr w' : World} {C : Nat} {A : Option Addr} {n c : Nat} {L : List Int} {j j' : Nat}
theorem PtFr.step (h : PtFr w C A n c L wr j) (hc : CurAt w' C A n c L j') (hb : But wr C w') : PtFr w C A n c L w' j' := by
  have hC := h.cur.lt
  exact ⟨h.cur.but hc hb, h.but.trans hb, (hb.2.2.2.2 _ h.res.lt (by omega)).trans h.res⟩
theorem PtFr.below (h : PtFr w C A n c L wr j) (hb : Below wr.heap.size wr w') : PtFr w C A n c L w' j := by
  have hb2 := hb.mono h.but.1
  exact ⟨h.cur.below hb2, but_below h.but hb2, h.res.below hb h.res.lt⟩
theorem PtFr.put (h : PtFr w C A n c L wr j) {P : Nat} (hP : w.heap.size < P) (k : Nat) (u : Value) : PtFr w C A n c L (wr.setCell ⟨P, k, none⟩ u) j := by
  have hb := (But.set wr P k u)
  have hb2 := hb.to (B := w.heap.size) h.but.1 (Nat.le_of_lt hP)
  exact ⟨h.cur.below hb2, but_below h.but hb2, (hb.2.2.2.2 _ h.res.lt (by omega)).trans h.res⟩
end
theorem pt_start (w : World) (C : Nat) (A : Option Addr) (n c : Nat) (L : List Int) (i : Nat) (h : CurAt w C A n c L i) : PtFr w C A n c L (w.alloc (.cells #[.int .i64 0, .string ⟨#[]⟩, .slice none 0 0, .int .i64 0, .bool false, .bool false, .slice none 0 0, .slice none 0 0, .slice none 0 0, .int .i64 0, .bool false, .bool false, .slice none 0 0, .slice none 0 0, .slice none 0 0, .int .i64 0] 98)) i := by
  have hb : Below w.heap.size w (w.alloc (.cells #[.int .i64 0, .string ⟨#[]⟩, .slice none 0 0, .int .i64 0, .bool false, .bool false, .slice none 0 0, .slice none 0 0, .slice none 0 0, .int .i64 0, .bool false, .bool false, .slice none 0 0, .slice none 0 0, .slice none 0 0, .int .i64 0] 98)) := (Below.refl _ _).alloc (Nat.le_refl _) _
  exact ⟨(CurLo.start h).below hb, But.below C hb, Blk.new _ _ _⟩
def PtX (w : World) (C b : Nat) : Prop := w.heap.size < b ∧ b ≠ C
theorem blk_step {w w' : World} {C P : Nat} {t : TypeId} {cs : Array Value} (h : Blk w P t cs) (hb : But w C w') (hP : P ≠ C) : Blk w' P t cs := (hb.2.2.2.2 _ h.lt hP).trans h
def PtPost (w : World) (C : Nat) (A : Option Addr) (n c : Nat) (L : List Int) (r : Rdg PartD) (e : Ending) (w' : World) : Prop :=
  match r with
  | .ok (d, j) => (∃ cs : List Value, e = .returned (.agg cs.toArray) ∧ PartX w' (PtX w C) d cs) ∧ CurAt w' C A n c L j ∧ But w C w'
  | .error (x, p) => e = thrown x p ∧ But w C w'
theorem pt_done {w wr : World} {C : Nat} {A : Option Addr} {n c : Nat} {L : List Int} {j : Nat} {d : PartD} {vs : List Value} (h : PtFr w C A n c L wr j) (hp : PartX wr (PtX w C) d vs) :
    vs.toArray.all (·.oneCell') = true ∧ CurAt (wr.setRow w.heap.size vs.toArray) C A n c L j ∧ But w C (wr.setRow w.heap.size vs.toArray) ∧
    Blk (wr.setRow w.heap.size vs.toArray) w.heap.size 98 vs.toArray ∧ PartX (wr.setRow w.heap.size vs.toArray) (PtX w C) d vs := by
  have hb := (row_but wr w.heap.size vs.toArray).to (B := w.heap.size) h.but.1 (Nat.le_refl _)
  have hk : Keeps wr (PtX w C) (wr.setRow w.heap.size vs.toArray) (PtX w C) := (row_but wr w.heap.size vs.toArray).keeps (fun b hb => by have := hb.1; omega) (fun _ h _ => h)
  exact ⟨by rw [Array.all_eq_true_iff_forall_mem]; intro u hu; exact hp.one.2 u (by simpa using hu), (h.cur.below hb).cur, but_below h.but hb, row_blk h.res, hp.keep hk⟩
theorem infoPt : (Tryz.prog.info? 98).map (·.size) = some 16 := by kernel_rfl
theorem structPt : ∃ fs, Tryz.prog.underlying 98 = some (.struct fs) := ⟨_, Tryz.underlying98⟩
theorem wordT_size (L : List Int) (a : Nat) : (wordT L a).size ≤ 4 * L.length := by
  unfold wordT
  have h1 := runesBytes_size_le (textAt L a (wordEnd L a))
  have h2 : (textAt L a (wordEnd L a)).length ≤ L.length := by unfold textAt; rw [List.length_take, List.length_drop]; omega
  omega
end Go.Proofs.YthnhbcohfoodlaaGreatDoor

namespace Go.Proofs.YthnhbcohfoodlaaGreatDoor
open Go.RowKit
theorem pass_need {L : List Int} {i : Nat} {e : Int × Nat} (h : needP L (i + 1) 58 = .error e) : passR L i = .error e := by unfold passR; rw [h]
theorem pass_set_err {L : List Int} {i j a : Nat} {e : Int × Nat} (h : needP L (i + 1) 58 = .ok j) (ha : spaceP L j = a) (h91 : pk L a = 91) (hs : setP' L 20 a = .error e) : passR L i = .error e := by unfold passR; rw [h]; simp only; rw [ha, if_pos h91, hs]
theorem pass_set_ok {L : List Int} {i j a k : Nat} {s : Spans} (h : needP L (i + 1) 58 = .ok j) (ha : spaceP L j = a) (h91 : pk L a = 91) (hs : setP' L 20 a = .ok (s, k)) : passR L i = .ok (⟨3, noName, s, 0, noSide, noSide⟩, k) := by unfold passR; rw [h]; simp only; rw [ha, if_pos h91, hs]
theorem pass_name {L : List Int} {i j a : Nat} (h : needP L (i + 1) 58 = .ok j) (ha : spaceP L j = a) (h91 : pk L a ≠ 91) : passR L i = (if passB (wordT L a) = true then .ok (⟨4, wordT L a, [], 0, noSide, noSide⟩, wordEnd L a) else .error (7, a)) := by unfold passR; rw [h]; simp only; rw [ha, if_neg h91]
set_option maxHeartbeats 12800000 in
set_option maxRecDepth 100000 in
theorem rd_part_pass (w : World) (C : Nat) (A : Option Addr) (n c : Nat) (L : List Int) (i : Nat) (h : CurAt w C A n c L i) (hL : ValidL L) (hn : n ≤ 100000) (h58 : pk L i = 58) :
    Calls Tryz.prog 58 #[.pointer (some ⟨C, 0, none⟩)] w (PtPost w C A n c L (passR L i)) := by
  have hl := h.len
  have HL := Lib.hid hL
  have HPK := Lib.hid (fun (W : World) (m : Nat) (h : CurAt W C A n c L m) => cur_peek2 W C A n c L m h)
  have HSP := Lib.hid (fun (W : World) (m : Nat) (h : CurAt W C A n c L m) => rd_space W C A n c L m h)
  have HND := Lib.hid (fun (W : World) (m : Nat) (r : Int) (h : CurAt W C A n c L m) (hr : r ≠ -1) => cur_need W C A n c L m r h hr)
  have HST := Lib.hid (fun (W : World) (m : Nat) (h : CurAt W C A n c L m) => cur_set 20 1 W C A n c L m rfl (by decide) h hL hn)
  have HWD := Lib.hid (fun (W : World) (m : Nat) (h : CurAt W C A n c L m) (h0 : 0 < n) => rd_word W C A n c L m h h0)
  have hi := h.le
  have HF0 := Lib.hid (pt_start w C A n c L i h)
  obtain ⟨R, hR⟩ : ∃ R, passR L i = R := ⟨_, rfl⟩
  rw [hR]
  have HR := Lib.hid hR
  clear h hL hR
  go_enter Tryz.func58, Tryz.ntmps58
  go_wp2_with fail
  refine (HPK.out _ i HF0.out.cur.cur).mono ?_
  rintro e w1 ⟨rfl, hc1, hb1⟩
  have HF1 := Lib.hid (HF0.out.step hc1 hb1)
  clear hc1 hb1
  have hlt : i < n := by rw [← hl]; exact pk_lt (by omega)
  rw [h58]
  obtain ⟨d1, d2, d3, d4⟩ := HF1.out.cur.cur.step hlt
  have HF2 := Lib.hid (HF1.out.step d3 d4)
  have hwa : IntKind.i64.wrap ((i : Int) + 1) = (i : Int) + 1 := wrap_small _ (by omega) (by omega)
  have HN2 := Lib.hid (HND.out _ (i + 1) 58 HF2.out.cur.cur (by decide))
  clear d3 d4
  cases hnd : needP L (i + 1) 58 with
  | error e0 =>
    obtain ⟨y, p⟩ := e0
    have HRX := Lib.hid (show R = .error (y, p) from HR.out.symm.trans (pass_need hnd))
    rw [hnd] at HN2
    clear hnd
    go_wp2_with fail
    refine HN2.out.mono ?_
    rintro e w9 ⟨he, hb9⟩
    unfold thrown at he
    subst he
    have HB9 := Lib.hid (HF2.out.but.trans hb9)
    clear hb9
    go_wp2_with fail
    rw [HRX.out]
    exact ⟨rfl, rfl, HB9.out⟩
  | ok j =>
    have HNE := Lib.hid hnd
    rw [hnd] at HN2
    clear hnd
    obtain ⟨a, ha⟩ : ∃ a, spaceP L j = a := ⟨_, rfl⟩
    have HA := Lib.hid ha
    clear ha
    go_wp2_with fail
    refine HN2.out.mono ?_
    rintro e w3 ⟨rfl, hc3, hb3⟩
    have HF3 := Lib.hid (HF2.out.step hc3 hb3)
    clear hc3 hb3 d1 d2
    go_wp2_with fail
    refine (HSP.out _ j HF3.out.cur.cur).mono ?_
    rintro e w4 ⟨rfl, hc4, hb4⟩
    rw [HA.out] at hc4
    have HF4 := Lib.hid (HF3.out.step hc4 hb4)
    clear hc4 hb4
    go_wp2_with fail
    refine (HPK.out _ a HF4.out.cur.cur).mono ?_
    rintro e w5 ⟨rfl, hc5, hb5⟩
    have HF5 := Lib.hid (HF4.out.step hc5 hb5)
    clear hc5 hb5
    by_cases h91 : pk L a = 91
    · have HSE := Lib.hid (HST.out _ a HF5.out.cur.cur)
      cases hst : setP' L 20 a with
      | error e0 =>
        obtain ⟨y, p⟩ := e0
        have HRX := Lib.hid (show R = .error (y, p) from HR.out.symm.trans (pass_set_err HNE.out HA.out h91 hst))
        rw [hst] at HSE
        rw [h91]
        clear hst h91
        go_wp2_with fail
        refine HSE.out.mono ?_
        rintro e w9 ⟨he, hb9⟩
        unfold thrown at he
        subst he
        have HB9 := Lib.hid (HF5.out.but.trans hb9)
        clear hb9
        go_wp2_with fail
        rw [HRX.out]
        exact ⟨rfl, rfl, HB9.out⟩
      | ok q =>
        obtain ⟨s, k⟩ := q
        have HRX := Lib.hid (show R = .ok (⟨3, noName, s, 0, noSide, noSide⟩, k) from HR.out.symm.trans (pass_set_ok HNE.out HA.out h91 hst))
        have hss := (setP_ok HL.out.ok 20 _ _ _ hst).2.size
        rw [hst] at HSE
        rw [h91]
        clear hst h91
        go_wp2_with fail
        refine HSE.out.mono ?_
        rintro e w6 ⟨⟨B, m, d, rfl, hr, hd⟩, hc6, hb6⟩
        have hf6 := HF5.out.step hc6 hb6
        have hm : m ≤ maxLen := by have h1 := hr.1; rw [spanCells_length] at h1; unfold maxLen; omega
        have HRD := Lib.hid (show RdX w6 (PtX w C) 2 B m (spanCells s) from hr.lift (fun b (h : w5.heap.size ≤ b) => ⟨by have := HF5.out.res.lt; omega, by have := HF5.out.cur.lt; have := HF5.out.but.1; omega⟩))
        have HF6 := Lib.hid hf6
        have HPX := Lib.hid (show PartX w6 (PtX w C) ⟨3, noName, s, 0, noSide, noSide⟩ [.int .i64 3, .string ⟨#[]⟩, .slice B m d, .int .i64 0, .bool false, .bool false, .slice none 0 0, .slice none 0 0, .slice none 0 0, .int .i64 0, .bool false, .bool false, .slice none 0 0, .slice none 0 0, .slice none 0 0, .int .i64 0] from ⟨B, m, d, [.bool false, .bool false, .slice none 0 0, .slice none 0 0, .slice none 0 0, .int .i64 0], [.bool false, .bool false, .slice none 0 0, .slice none 0 0, .slice none 0 0, .int .i64 0], rfl, HRD.out, hm, zero_side, zero_side, show i64R 3 from ⟨by decide, by decide⟩, show i64R 0 from ⟨by decide, by decide⟩, Nat.zero_le _⟩)
        clear hr hd hc6 hb6 hf6
        obtain ⟨hone, e1, e2, hlc6, e4⟩ := pt_done HF6.out HPX.out
        have HE1 := Lib.hid e1
        have HE2 := Lib.hid e2
        have HE4 := Lib.hid e4
        have HON := Lib.hid hone
        have HLC := Lib.hid hlc6
        have HRB := Lib.hid (PtFr.res HF6.out)
        clear e1 e2 e4 hlc6 hone
        go_wp2_with (refine wpList_store_row (c := #[.int .i64 0, .string ⟨#[]⟩, .slice none 0 0, .int .i64 0, .bool false, .bool false, .slice none 0 0, .slice none 0 0, .slice none 0 0, .int .i64 0, .bool false, .bool false, .slice none 0 0, .slice none 0 0, .slice none 0 0, .int .i64 0]) (vs := #[.int .i64 3, .string ⟨#[]⟩, .slice B m d, .int .i64 0, .bool false, .bool false, .slice none 0 0, .slice none 0 0, .slice none 0 0, .int .i64 0, .bool false, .bool false, .slice none 0 0, .slice none 0 0, .slice none 0 0, .int .i64 0]) rfl rfl infoPt rfl HON.out rfl rfl HRB.out ?_)
        (try simp only [Act.put])
        refine bodyPost_ret (v := .agg #[.int .i64 3, .string ⟨#[]⟩, .slice B m d, .int .i64 0, .bool false, .bool false, .slice none 0 0, .slice none 0 0, .slice none 0 0, .int .i64 0, .bool false, .bool false, .slice none 0 0, .slice none 0 0, .slice none 0 0, .int .i64 0]) (results_row Tryz.results58 rfl structPt infoPt HLC.out) rfl ?_
        rw [HRX.out]
        exact ⟨⟨_, rfl, HE4.out⟩, HE1.out, HE2.out⟩
    · have q91 : (pk L a == 91) = false := by rw [beq_eq_false_iff_ne]; exact h91
      have c1 := HF5.out.cur.cur.blk.cell 1
      obtain ⟨T, hT⟩ : ∃ T, wordT L a = T := ⟨_, rfl⟩
      have HT := Lib.hid hT
      have HP2 := Lib.hid (show R = (if passB T = true then .ok (⟨4, T, [], 0, noSide, noSide⟩, wordEnd L a) else .error (7, a)) by rw [← HR.out, pass_name HNE.out HA.out h91, hT])
      clear hT
      go_wp2_with fail
      refine (HWD.out _ a HF5.out.cur.cur (by omega)).mono ?_
      rintro e w6 ⟨rfl, hc6, hb6⟩
      rw [HT.out]
      have HF6 := Lib.hid (HF5.out.step hc6 hb6)
      have hts : T.size ≤ maxLen := by
        rw [← HT.out]
        have := wordT_size L a
        have := HF6.out.cur.cur.le
        unfold maxLen
        omega
      clear hc6 hb6 c1
      go_upto_region 9 with fail
      have hP := HF6.out.res.lt
      have hblk := Blk.new w6 98 #[.int .i64 4, .string T, .slice none 0 0, .int .i64 0, .bool false, .bool false, .slice none 0 0, .slice none 0 0, .slice none 0 0, .int .i64 0, .bool false, .bool false, .slice none 0 0, .slice none 0 0, .slice none 0 0, .int .i64 0]
      have hbw : Below w6.heap.size w6 (w6.alloc (.cells #[.int .i64 4, .string T, .slice none 0 0, .int .i64 0, .bool false, .bool false, .slice none 0 0, .slice none 0 0, .slice none 0 0, .int .i64 0, .bool false, .bool false, .slice none 0 0, .slice none 0 0, .slice none 0 0, .int .i64 0] 98)) := (Below.refl _ _).alloc (Nat.le_refl _) _
      have hf7 := HF6.out.below hbw
      have hz7 : w6.heap.size < (w6.alloc (.cells #[.int .i64 4, .string T, .slice none 0 0, .int .i64 0, .bool false, .bool false, .slice none 0 0, .slice none 0 0, .slice none 0 0, .int .i64 0, .bool false, .bool false, .slice none 0 0, .slice none 0 0, .slice none 0 0, .int .i64 0] 98)).heap.size := by simp
      generalize (w6.alloc (.cells #[.int .i64 4, .string T, .slice none 0 0, .int .i64 0, .bool false, .bool false, .slice none 0 0, .slice none 0 0, .slice none 0 0, .int .i64 0, .bool false, .bool false, .slice none 0 0, .slice none 0 0, .slice none 0 0, .int .i64 0] 98)) = w7 at *
      have HF7 := Lib.hid hf7
      have HBK := Lib.hid hblk
      have c1 : w7.cell? ⟨w6.heap.size, 1, none⟩ = some (.string T) := hblk.cell 1
      clear hbw hf7 hblk
      obtain ⟨B9, hB9⟩ : ∃ B9, passB T = B9 := ⟨_, rfl⟩
      have HB9 := Lib.hid hB9
      rw [hB9] at HP2
      clear hB9
      go_cut [51] (fun v wx => v = .bool (!B9) ∧ Below w7.heap.size w7 wx)
      case first =>
        go_region_with (first | (go_at_call 97; refine (rulesyn_passes _).mono ?_; rintro e w' ⟨rfl, rfl⟩) | (go_at_call 96; refine (pass_has _ T _ HB9.out _ (blk_drew (Blk.new _ _ _))).mono ?_; rintro e w' ⟨rfl, rfl⟩))
        all_goals
          go_wp2_with fail
          go_meet
          exact ⟨rfl, below_drewN ((Below.refl _ _).alloc (Nat.le_refl _) _) _⟩
      case rest =>
        obtain ⟨rfl, hbc⟩ := hcut
        have HF8 := Lib.hid (HF7.out.below hbc)
        have hbk8 := HBK.out.below hbc hz7
        have HBK8 := Lib.hid hbk8
        cases B9 with
        | false =>
          have HRX := Lib.hid (show R = .error (7, a) from HP2.out)
          clear hbc c1 hbk8
          go_wp2_with fail
          refine (syn_fail 7 a _).mono ?_
          rintro e w9 ⟨rfl, rfl⟩
          go_wp2_with fail
          rw [HRX.out]
          exact ⟨rfl, rfl, HF8.out.but⟩
        | true =>
          have HRX := Lib.hid (show R = .ok (⟨4, T, [], 0, noSide, noSide⟩, wordEnd L a) from HP2.out)
          have hf8 := HF8.out
          have HPX := Lib.hid (show PartX wc (PtX w C) ⟨4, T, [], 0, noSide, noSide⟩ [.int .i64 4, .string T, .slice none 0 0, .int .i64 0, .bool false, .bool false, .slice none 0 0, .slice none 0 0, .slice none 0 0, .int .i64 0, .bool false, .bool false, .slice none 0 0, .slice none 0 0, .slice none 0 0, .int .i64 0] from ⟨none, 0, 0, [.bool false, .bool false, .slice none 0 0, .slice none 0 0, .slice none 0 0, .int .i64 0], [.bool false, .bool false, .slice none 0 0, .slice none 0 0, .slice none 0 0, .int .i64 0], rfl, RdX.nil 2, Nat.zero_le _, zero_side, zero_side, show i64R 4 from ⟨by decide, by decide⟩, show i64R 0 from ⟨by decide, by decide⟩, hts⟩)
          clear hbc hf8 c1
          obtain ⟨hone, e1, e2, hlc6, e4⟩ := pt_done HF8.out HPX.out
          have HE1 := Lib.hid e1
          have HE2 := Lib.hid e2
          have HE4 := Lib.hid e4
          have HON := Lib.hid hone
          have HLC := Lib.hid hlc6
          have HRB := Lib.hid (PtFr.res HF8.out)
          have HLB := Lib.hid hbk8
          clear e1 e2 e4 hlc6 hone
          go_wp2_with (first | (refine wpList_load_row (cs := #[.int .i64 4, .string T, .slice none 0 0, .int .i64 0, .bool false, .bool false, .slice none 0 0, .slice none 0 0, .slice none 0 0, .int .i64 0, .bool false, .bool false, .slice none 0 0, .slice none 0 0, .slice none 0 0, .int .i64 0]) rfl rfl structPt infoPt rfl HLB.out ?_) | (refine wpList_store_row (c := #[.int .i64 0, .string ⟨#[]⟩, .slice none 0 0, .int .i64 0, .bool false, .bool false, .slice none 0 0, .slice none 0 0, .slice none 0 0, .int .i64 0, .bool false, .bool false, .slice none 0 0, .slice none 0 0, .slice none 0 0, .int .i64 0]) (vs := #[.int .i64 4, .string T, .slice none 0 0, .int .i64 0, .bool false, .bool false, .slice none 0 0, .slice none 0 0, .slice none 0 0, .int .i64 0, .bool false, .bool false, .slice none 0 0, .slice none 0 0, .slice none 0 0, .int .i64 0]) rfl rfl infoPt rfl HON.out rfl rfl HRB.out ?_))
          (try simp only [Act.put])
          refine bodyPost_ret (v := .agg #[.int .i64 4, .string T, .slice none 0 0, .int .i64 0, .bool false, .bool false, .slice none 0 0, .slice none 0 0, .slice none 0 0, .int .i64 0, .bool false, .bool false, .slice none 0 0, .slice none 0 0, .slice none 0 0, .int .i64 0]) (results_row Tryz.results58 rfl structPt infoPt HLC.out) rfl ?_
          rw [HRX.out]
          exact ⟨⟨_, rfl, HE4.out⟩, HE1.out, HE2.out⟩
end Go.Proofs.YthnhbcohfoodlaaGreatDoor

namespace Go.Proofs.YthnhbcohfoodlaaGreatDoor
open Go.RowKit
theorem var_name_err {L : List Int} {i : Nat} {e : Int × Nat} (h : nameP L (i + 1) = .error e) : varR L i = .error e := by unfold varR; rw [h]
theorem var_need_err {L : List Int} {i j : Nat} {s : ByteArray} {e : Int × Nat} (h : nameP L (i + 1) = .ok (s, j)) (h2 : needP L (spaceP L j) 61 = .error e) : varR L i = .error e := by unfold varR; rw [h]; simp only; rw [h2]
theorem var_set_err {L : List Int} {i j k : Nat} {s : ByteArray} {e : Int × Nat} (h : nameP L (i + 1) = .ok (s, j)) (h2 : needP L (spaceP L j) 61 = .ok k) (h3 : setP' L 20 (spaceP L k) = .error e) : varR L i = .error e := by unfold varR; rw [h]; simp only; rw [h2]; simp only; rw [h3]
theorem var_ok {L : List Int} {i j k m : Nat} {s : ByteArray} {t : Spans} (h : nameP L (i + 1) = .ok (s, j)) (h2 : needP L (spaceP L j) 61 = .ok k) (h3 : setP' L 20 (spaceP L k) = .ok (t, m)) : varR L i = .ok (⟨1, s, t, 0, noSide, noSide⟩, m) := by unfold varR; rw [h]; simp only; rw [h2]; simp only; rw [h3]
set_option maxHeartbeats 12800000 in
set_option maxRecDepth 100000 in
theorem rd_part_var (w : World) (C : Nat) (A : Option Addr) (n c : Nat) (L : List Int) (i : Nat) (h : CurAt w C A n c L i) (hL : ValidL L) (hn : n ≤ 100000) (h36 : pk L i = 36) (hv : varB L i = true) :
    Calls Tryz.prog 58 #[.pointer (some ⟨C, 0, none⟩)] w (PtPost w C A n c L (varR L i)) := by
  have hl := h.len
  have HL := Lib.hid hL
  have HPK := Lib.hid (fun (W : World) (m : Nat) (h : CurAt W C A n c L m) => cur_peek2 W C A n c L m h)
  have HSP := Lib.hid (fun (W : World) (m : Nat) (h : CurAt W C A n c L m) => rd_space W C A n c L m h)
  have HND := Lib.hid (fun (W : World) (m : Nat) (r : Int) (h : CurAt W C A n c L m) (hr : r ≠ -1) => cur_need W C A n c L m r h hr)
  have HST := Lib.hid (fun (W : World) (m : Nat) (h : CurAt W C A n c L m) => cur_set 20 1 W C A n c L m rfl (by decide) h hL hn)
  have HWD := Lib.hid (fun (W : World) (m : Nat) (h : CurAt W C A n c L m) (h0 : 0 < n) => rd_word W C A n c L m h h0)
  have hi := h.le
  have HF0 := Lib.hid (pt_start w C A n c L i h)
  obtain ⟨R, hR⟩ : ∃ R, varR L i = R := ⟨_, rfl⟩
  rw [hR]
  have HR := Lib.hid hR
  clear h hL hR
  go_enter Tryz.func58, Tryz.ntmps58
  go_wp2_with fail
  refine (HPK.out _ i HF0.out.cur.cur).mono ?_
  rintro e w1 ⟨rfl, hc1, hb1⟩
  have HF1 := Lib.hid (HF0.out.step hc1 hb1)
  clear hc1 hb1
  have hlt : i < n := by rw [← hl]; exact pk_lt (by omega)
  have HVR := Lib.hid (fun (W : World) (h : CurAt W C A n c L i) => show Calls Tryz.prog 98 #[.pointer (some ⟨C, 0, none⟩)] W fun e w' => e = .returned (.bool true) ∧ Below W.heap.size W w' by have := rd_variable W C A n c L i h hlt; rwa [hv] at this)
  rw [h36]
  go_upto_if 63 with (first
    | (go_at_call 57; refine (HPK.out _ i HF1.out.cur.cur).mono ?_; rintro e w2 ⟨rfl, hc2, hb2⟩; rw [h36])
    | (go_at_call 98; refine (HVR.out _ (by assumption)).mono ?_; rintro e w3 ⟨rfl, hb3⟩))
  have HF3 := Lib.hid ((HF1.out.step hc2 hb2).below hb3)
  clear hc2 hb2 hb3
  obtain ⟨d1, d2, d3, d4⟩ := HF3.out.cur.cur.step hlt
  have HF4 := Lib.hid (HF3.out.step d3 d4)
  have hwa : IntKind.i64.wrap ((i : Int) + 1) = (i : Int) + 1 := wrap_small _ (by omega) (by omega)
  have HNM := Lib.hid (rd_name _ C A n c L (i + 1) HF4.out.cur.cur (by omega))
  clear d3 d4
  cases hnm : nameP L (i + 1) with
  | error e0 =>
    obtain ⟨y, p⟩ := e0
    have HRX := Lib.hid (show R = .error (y, p) from HR.out.symm.trans (var_name_err hnm))
    rw [hnm] at HNM
    clear hnm
    go_wp2_with fail
    refine HNM.out.mono ?_
    rintro e w9 ⟨he, hb9⟩
    unfold thrown at he
    subst he
    have HB9 := Lib.hid (HF4.out.but.trans hb9)
    clear hb9
    go_wp2_with fail
    rw [HRX.out]
    exact ⟨rfl, rfl, HB9.out⟩
  | ok q =>
    obtain ⟨T, j⟩ := q
    have HNE := Lib.hid hnm
    have hts : T.size ≤ maxLen := by
      have h1 := (nameP_ok hnm).2.2.1
      have h2 := wordT_size L (i + 1)
      have h3 := HF4.out.cur.cur.le
      rw [← h1] at h2
      unfold maxLen
      omega
    rw [hnm] at HNM
    clear hnm
    obtain ⟨a, ha⟩ : ∃ a, spaceP L j = a := ⟨_, rfl⟩
    have HA := Lib.hid ha
    clear ha
    go_wp2_with fail
    refine HNM.out.mono ?_
    rintro e w5 ⟨rfl, hc5, hb5⟩
    have HF5 := Lib.hid (HF4.out.step hc5 hb5)
    clear hc5 hb5 d1 d2
    have hP := HF5.out.res.lt
    have hPC : w5.heap.size ≠ C := by have := HF5.out.cur.lt; have := HF5.out.but.1; omega
    have hblk := Blk.new w5 98 #[.int .i64 1, .string T, .slice none 0 0, .int .i64 0, .bool false, .bool false, .slice none 0 0, .slice none 0 0, .slice none 0 0, .int .i64 0, .bool false, .bool false, .slice none 0 0, .slice none 0 0, .slice none 0 0, .int .i64 0]
    have hbw : Below w5.heap.size w5 (w5.alloc (.cells #[.int .i64 1, .string T, .slice none 0 0, .int .i64 0, .bool false, .bool false, .slice none 0 0, .slice none 0 0, .slice none 0 0, .int .i64 0, .bool false, .bool false, .slice none 0 0, .slice none 0 0, .slice none 0 0, .int .i64 0] 98)) := (Below.refl _ _).alloc (Nat.le_refl _) _
    have HF6 := Lib.hid (HF5.out.below hbw)
    have HBK := Lib.hid hblk
    clear hbw hblk
    go_wp2_with fail
    refine (HSP.out _ j HF6.out.cur.cur).mono ?_
    rintro e w7 ⟨rfl, hc7, hb7⟩
    rw [HA.out] at hc7
    have HF7 := Lib.hid (HF6.out.step hc7 hb7)
    have HBK7 := Lib.hid (blk_step HBK.out hb7 hPC)
    clear hc7 hb7
    have HN7 := Lib.hid (HND.out _ a 61 HF7.out.cur.cur (by decide))
    cases hnd : needP L a 61 with
    | error e0 =>
      obtain ⟨y, p⟩ := e0
      have HRX := Lib.hid (show R = .error (y, p) from HR.out.symm.trans (var_need_err HNE.out (by rw [HA.out]; exact hnd)))
      rw [hnd] at HN7
      clear hnd
      go_wp2_with fail
      refine HN7.out.mono ?_
      rintro e w9 ⟨he, hb9⟩
      unfold thrown at he
      subst he
      have HB9 := Lib.hid (HF7.out.but.trans hb9)
      clear hb9
      go_wp2_with fail
      rw [HRX.out]
      exact ⟨rfl, rfl, HB9.out⟩
    | ok k =>
      have HND1 := Lib.hid (show needP L (spaceP L j) 61 = .ok k by rw [HA.out]; exact hnd)
      rw [hnd] at HN7
      clear hnd
      obtain ⟨b, hb⟩ : ∃ b, spaceP L k = b := ⟨_, rfl⟩
      have HB := Lib.hid hb
      clear hb
      go_wp2_with fail
      refine HN7.out.mono ?_
      rintro e w8 ⟨rfl, hc8, hb8⟩
      have HF8 := Lib.hid (HF7.out.step hc8 hb8)
      have HBK8 := Lib.hid (blk_step HBK7.out hb8 hPC)
      clear hc8 hb8
      go_wp2_with fail
      refine (HSP.out _ k HF8.out.cur.cur).mono ?_
      rintro e w9 ⟨rfl, hc9, hb9⟩
      rw [HB.out] at hc9
      have HF9 := Lib.hid (HF8.out.step hc9 hb9)
      have HBK9 := Lib.hid (blk_step HBK8.out hb9 hPC)
      clear hc9 hb9
      have HSE := Lib.hid (HST.out _ b HF9.out.cur.cur)
      cases hst : setP' L 20 b with
      | error e0 =>
        obtain ⟨y, p⟩ := e0
        have HRX := Lib.hid (show R = .error (y, p) from HR.out.symm.trans (var_set_err HNE.out HND1.out (by rw [HB.out]; exact hst)))
        rw [hst] at HSE
        clear hst
        go_wp2_with fail
        refine HSE.out.mono ?_
        rintro e wz ⟨he, hbz⟩
        unfold thrown at he
        subst he
        have HBZ := Lib.hid (HF9.out.but.trans hbz)
        clear hbz
        go_wp2_with fail
        rw [HRX.out]
        exact ⟨rfl, rfl, HBZ.out⟩
      | ok q =>
        obtain ⟨s, m0⟩ := q
        have HRX := Lib.hid (show R = .ok (⟨1, T, s, 0, noSide, noSide⟩, m0) from HR.out.symm.trans (var_ok HNE.out HND1.out (by rw [HB.out]; exact hst)))
        have hss := (setP_ok HL.out.ok 20 _ _ _ hst).2.size
        rw [hst] at HSE
        clear hst
        go_wp2_with fail
        refine HSE.out.mono ?_
        rintro e w10 ⟨⟨B, m, d, rfl, hr, hd⟩, hc10, hb10⟩
        have hf10 := HF9.out.step hc10 hb10
        have hk10 := blk_step HBK9.out hb10 hPC
        have hm : m ≤ maxLen := by have h1 := hr.1; rw [spanCells_length] at h1; unfold maxLen; omega
        have hPlt := HBK9.out.lt
        have x2 := hk10.cell 2
        have z2 := hk10.frozen 2
        have HF11 := Lib.hid (hf10.put hP 2 (.slice B m d))
        have HBK11 := Lib.hid (show Blk (w10.setCell ⟨w5.heap.size, 2, none⟩ (.slice B m d)) w5.heap.size 98 #[.int .i64 1, .string T, .slice B m d, .int .i64 0, .bool false, .bool false, .slice none 0 0, .slice none 0 0, .slice none 0 0, .int .i64 0, .bool false, .bool false, .slice none 0 0, .slice none 0 0, .slice none 0 0, .int .i64 0] from hk10.put 2 _)
        have hrd : RdX w10 (fun b => PtX w C b ∧ b ≠ w5.heap.size) 2 B m (spanCells s) := hr.lift (fun b (h : w9.heap.size ≤ b) => ⟨⟨by have := HF9.out.res.lt; omega, by have := HF9.out.cur.lt; have := HF9.out.but.1; omega⟩, by omega⟩)
        have HRD := Lib.hid (hrd.keep (Keeps.setCell (p := ⟨w5.heap.size, 2, none⟩) (X' := PtX w C) (.slice B m d) (fun b hb => hb.2) (fun b hb _ => hb.1)))
        have HPX := Lib.hid (show PartX (w10.setCell ⟨w5.heap.size, 2, none⟩ (.slice B m d)) (PtX w C) ⟨1, T, s, 0, noSide, noSide⟩ [.int .i64 1, .string T, .slice B m d, .int .i64 0, .bool false, .bool false, .slice none 0 0, .slice none 0 0, .slice none 0 0, .int .i64 0, .bool false, .bool false, .slice none 0 0, .slice none 0 0, .slice none 0 0, .int .i64 0] from ⟨B, m, d, [.bool false, .bool false, .slice none 0 0, .slice none 0 0, .slice none 0 0, .int .i64 0], [.bool false, .bool false, .slice none 0 0, .slice none 0 0, .slice none 0 0, .int .i64 0], rfl, HRD.out, hm, zero_side, zero_side, show i64R 1 from ⟨by decide, by decide⟩, show i64R 0 from ⟨by decide, by decide⟩, hts⟩)
        clear hr hd hc10 hb10 hf10 hk10 hrd
        go_upto_region 19 with fail
        have hHF := HF11.out
        have hHB := HBK11.out
        have hHP := HPX.out
        clear HF11 HBK11 HPX HRD x2 z2
        generalize w10.setCell ⟨w5.heap.size, 2, none⟩ (.slice B m d) = w11 at *
        obtain ⟨hone, e1, e2, hlc6, e4⟩ := pt_done hHF hHP
        have HE1 := Lib.hid e1
        have HE2 := Lib.hid e2
        have HE4 := Lib.hid e4
        have HON := Lib.hid hone
        have HLC := Lib.hid hlc6
        have HRB := Lib.hid (PtFr.res hHF)
        have HLB := Lib.hid hHB
        clear e1 e2 e4 hlc6 hone
        go_wp2_with (first | (refine wpList_load_row (cs := #[.int .i64 1, .string T, .slice B m d, .int .i64 0, .bool false, .bool false, .slice none 0 0, .slice none 0 0, .slice none 0 0, .int .i64 0, .bool false, .bool false, .slice none 0 0, .slice none 0 0, .slice none 0 0, .int .i64 0]) rfl rfl structPt infoPt rfl HLB.out ?_) | (refine wpList_store_row (c := #[.int .i64 0, .string ⟨#[]⟩, .slice none 0 0, .int .i64 0, .bool false, .bool false, .slice none 0 0, .slice none 0 0, .slice none 0 0, .int .i64 0, .bool false, .bool false, .slice none 0 0, .slice none 0 0, .slice none 0 0, .int .i64 0]) (vs := #[.int .i64 1, .string T, .slice B m d, .int .i64 0, .bool false, .bool false, .slice none 0 0, .slice none 0 0, .slice none 0 0, .int .i64 0, .bool false, .bool false, .slice none 0 0, .slice none 0 0, .slice none 0 0, .int .i64 0]) rfl rfl infoPt rfl HON.out rfl rfl HRB.out ?_))
        (try simp only [Act.put])
        refine bodyPost_ret (v := .agg #[.int .i64 1, .string T, .slice B m d, .int .i64 0, .bool false, .bool false, .slice none 0 0, .slice none 0 0, .slice none 0 0, .int .i64 0, .bool false, .bool false, .slice none 0 0, .slice none 0 0, .slice none 0 0, .int .i64 0]) (results_row Tryz.results58 rfl structPt infoPt HLC.out) rfl ?_
        rw [HRX.out]
        exact ⟨⟨_, rfl, HE4.out⟩, HE1.out, HE2.out⟩
end Go.Proofs.YthnhbcohfoodlaaGreatDoor

namespace Go.Proofs.YthnhbcohfoodlaaGreatDoor
open Go.RowKit
theorem rule_left_err {L : List Int} {i : Nat} {e : Int × Nat} (h : sideR L i = .error e) : ruleR L i = .error e := by unfold ruleR; rw [h]
theorem rule_arrow_err {L : List Int} {i j : Nat} {l : SideD} {e : Int × Nat} (h : sideR L i = .ok (l, j)) (h2 : arrowR L j = .error e) : ruleR L i = .error e := by unfold ruleR; rw [h]; simp only; rw [h2]
theorem rule_right_err {L : List Int} {i j k : Nat} {l : SideD} {d : Int} {e : Int × Nat} (h : sideR L i = .ok (l, j)) (h2 : arrowR L j = .ok (d, k)) (h3 : sideR L k = .error e) : ruleR L i = .error e := by unfold ruleR; rw [h]; simp only; rw [h2]; simp only; rw [h3]
theorem rule_wrong {L : List Int} {i j k m : Nat} {l r : SideD} {d : Int} (h : sideR L i = .ok (l, j)) (h2 : arrowR L j = .ok (d, k)) (h3 : sideR L k = .ok (r, m)) : ruleR L i = if partP ⟨2, noName, [], d, l, r⟩ ≠ 0 then .error (partP ⟨2, noName, [], d, l, r⟩, i) else .ok (⟨2, noName, [], d, l, r⟩, m) := by unfold ruleR; rw [h]; simp only; rw [h2]; simp only; rw [h3]
theorem arrow_dir {L : List Int} {i j : Nat} {d : Int} (h : arrowR L i = .ok (d, j)) : 1 ≤ d ∧ d ≤ 3 := by
  unfold arrowR at h
  split at h
  · injection h with h; injection h with h1 h2; omega
  · split at h
    · injection h with h; injection h with h1 h2; omega
    · split at h
      · cases h
      · injection h with h; injection h with h1 h2; omega
theorem six_puts {wr : World} {P : Nat} {t : TypeId} {X X' : Nat → Prop} (a0 a1 a2 a3 a4 a5 a6 a7 a8 a9 v0 v1 v2 v3 v4 v5 z0 z1 z2 z3 z4 z5 : Value) (h : Blk wr P t #[a0, a1, a2, a3, a4, a5, a6, a7, a8, a9, z0, z1, z2, z3, z4, z5]) (hX : ∀ b, X b → b ≠ P) (h2 : ∀ b, X b → X' b) : Blk ((((((wr.setCell ⟨P, 10, none⟩ v0).setCell ⟨P, 11, none⟩ v1).setCell ⟨P, 12, none⟩ v2).setCell ⟨P, 13, none⟩ v3).setCell ⟨P, 14, none⟩ v4).setCell ⟨P, 15, none⟩ v5) P t #[a0, a1, a2, a3, a4, a5, a6, a7, a8, a9, v0, v1, v2, v3, v4, v5] ∧ Keeps wr X ((((((wr.setCell ⟨P, 10, none⟩ v0).setCell ⟨P, 11, none⟩ v1).setCell ⟨P, 12, none⟩ v2).setCell ⟨P, 13, none⟩ v3).setCell ⟨P, 14, none⟩ v4).setCell ⟨P, 15, none⟩ v5) X' := by
  have r0 : Blk (wr.setCell ⟨P, 10, none⟩ v0) P t #[a0, a1, a2, a3, a4, a5, a6, a7, a8, a9, v0, z1, z2, z3, z4, z5] := h.put 10 v0
  have r1 : Blk ((wr.setCell ⟨P, 10, none⟩ v0).setCell ⟨P, 11, none⟩ v1) P t #[a0, a1, a2, a3, a4, a5, a6, a7, a8, a9, v0, v1, z2, z3, z4, z5] := r0.put 11 v1
  have r2 : Blk (((wr.setCell ⟨P, 10, none⟩ v0).setCell ⟨P, 11, none⟩ v1).setCell ⟨P, 12, none⟩ v2) P t #[a0, a1, a2, a3, a4, a5, a6, a7, a8, a9, v0, v1, v2, z3, z4, z5] := r1.put 12 v2
  have r3 : Blk ((((wr.setCell ⟨P, 10, none⟩ v0).setCell ⟨P, 11, none⟩ v1).setCell ⟨P, 12, none⟩ v2).setCell ⟨P, 13, none⟩ v3) P t #[a0, a1, a2, a3, a4, a5, a6, a7, a8, a9, v0, v1, v2, v3, z4, z5] := r2.put 13 v3
  have r4 : Blk (((((wr.setCell ⟨P, 10, none⟩ v0).setCell ⟨P, 11, none⟩ v1).setCell ⟨P, 12, none⟩ v2).setCell ⟨P, 13, none⟩ v3).setCell ⟨P, 14, none⟩ v4) P t #[a0, a1, a2, a3, a4, a5, a6, a7, a8, a9, v0, v1, v2, v3, v4, z5] := r3.put 14 v4
  have r5 : Blk ((((((wr.setCell ⟨P, 10, none⟩ v0).setCell ⟨P, 11, none⟩ v1).setCell ⟨P, 12, none⟩ v2).setCell ⟨P, 13, none⟩ v3).setCell ⟨P, 14, none⟩ v4).setCell ⟨P, 15, none⟩ v5) P t #[a0, a1, a2, a3, a4, a5, a6, a7, a8, a9, v0, v1, v2, v3, v4, v5] := r4.put 15 v5
  have kp : ∀ (W : World) (k : Nat) (v : Value), Keeps W X (W.setCell ⟨P, k, none⟩ v) X := fun W k v => Keeps.setCell v hX (fun _ h _ => h)
  have k0 := kp wr 10 v0
  have k1 := k0.trans (kp (wr.setCell ⟨P, 10, none⟩ v0) 11 v1)
  have k2 := k1.trans (kp ((wr.setCell ⟨P, 10, none⟩ v0).setCell ⟨P, 11, none⟩ v1) 12 v2)
  have k3 := k2.trans (kp (((wr.setCell ⟨P, 10, none⟩ v0).setCell ⟨P, 11, none⟩ v1).setCell ⟨P, 12, none⟩ v2) 13 v3)
  have k4 := k3.trans (kp ((((wr.setCell ⟨P, 10, none⟩ v0).setCell ⟨P, 11, none⟩ v1).setCell ⟨P, 12, none⟩ v2).setCell ⟨P, 13, none⟩ v3) 14 v4)
  have k5 := k4.trans (kp (((((wr.setCell ⟨P, 10, none⟩ v0).setCell ⟨P, 11, none⟩ v1).setCell ⟨P, 12, none⟩ v2).setCell ⟨P, 13, none⟩ v3).setCell ⟨P, 14, none⟩ v4) 15 v5)
  exact ⟨r5, k5.trans (Keeps.refl h2)⟩
set_option maxHeartbeats 12800000 in
set_option maxRecDepth 100000 in
theorem rd_part_rule (w : World) (C : Nat) (A : Option Addr) (n c : Nat) (L : List Int) (i : Nat) (h : CurAt w C A n c L i) (hL : ValidL L) (hn : n ≤ 100000) (h58 : pk L i ≠ 58) (hv : ¬ (pk L i = 36 ∧ varB L i = true)) :
    Calls Tryz.prog 58 #[.pointer (some ⟨C, 0, none⟩)] w (PtPost w C A n c L (ruleR L i)) := by
  have hl := h.len
  have HL := Lib.hid hL
  have HPK := Lib.hid (fun (W : World) (m : Nat) (h : CurAt W C A n c L m) => cur_peek2 W C A n c L m h)
  have HSP := Lib.hid (fun (W : World) (m : Nat) (h : CurAt W C A n c L m) => rd_space W C A n c L m h)
  have HND := Lib.hid (fun (W : World) (m : Nat) (r : Int) (h : CurAt W C A n c L m) (hr : r ≠ -1) => cur_need W C A n c L m r h hr)
  have HST := Lib.hid (fun (W : World) (m : Nat) (h : CurAt W C A n c L m) => cur_set 20 1 W C A n c L m rfl (by decide) h hL hn)
  have HWD := Lib.hid (fun (W : World) (m : Nat) (h : CurAt W C A n c L m) (h0 : 0 < n) => rd_word W C A n c L m h h0)
  have hi := h.le
  have HF0 := Lib.hid (pt_start w C A n c L i h)
  obtain ⟨R, hR⟩ : ∃ R, ruleR L i = R := ⟨_, rfl⟩
  rw [hR]
  have HR := Lib.hid hR
  clear h hL hR
  go_enter Tryz.func58, Tryz.ntmps58
  go_wp2_with fail
  refine (HPK.out _ i HF0.out.cur.cur).mono ?_
  rintro e w1 ⟨rfl, hc1, hb1⟩
  have HF1 := Lib.hid (HF0.out.step hc1 hb1)
  clear hc1 hb1
  have HSD := Lib.hid (fun (W : World) (m : Nat) (h : CurAt W C A n c L m) => rd_side_x W C A n c L m h HL.out hn)
  have q58 : (pk L i == 58) = false := by rw [beq_eq_false_iff_ne]; exact h58
  go_upto_region 12 with fail
  go_cut [63] (fun v wx => v = .bool false ∧ PtFr w C A n c L wx i)
  case first =>
    by_cases h36 : pk L i = 36
    · have hlt : i < n := by rw [← hl]; exact pk_lt (by omega)
      have hvf : varB L i = false := by rw [Bool.eq_false_iff]; exact fun h => hv ⟨h36, h⟩
      have HVR := Lib.hid (fun (W : World) (h : CurAt W C A n c L i) => show Calls Tryz.prog 98 #[.pointer (some ⟨C, 0, none⟩)] W fun e w' => e = .returned (.bool false) ∧ Below W.heap.size W w' by have := rd_variable W C A n c L i h hlt; rwa [hvf] at this)
      clear h58 hv q58
      go_wp2_with (first
        | (go_at_call 57; refine (HPK.out _ i HF1.out.cur.cur).mono ?_; rintro e w2 ⟨rfl, hc2, hb2⟩; rw [h36])
        | (go_at_call 98; refine (HVR.out _ (by assumption)).mono ?_; rintro e w3 ⟨rfl, hb3⟩))
      go_meet
      exact ⟨rfl, (HF1.out.step hc2 hb2).below hb3⟩
    · have q36 : (pk L i == 36) = false := by rw [beq_eq_false_iff_ne]; exact h36
      clear h58 hv q58
      go_wp2_with (go_at_call 57; refine (HPK.out _ i HF1.out.cur.cur).mono ?_; rintro e w2 ⟨rfl, hc2, hb2⟩)
      go_meet
      exact ⟨rfl, HF1.out.step hc2 hb2⟩
  case rest =>
    obtain ⟨rfl, hfc⟩ := hcut
    have HF2 := Lib.hid hfc
    have y1 := hfc.cur.cur.blk.cell 1
    have HS1 := Lib.hid (HSD.out _ i hfc.cur.cur)
    clear hfc h58 hv q58
    cases hsl : sideR L i with
    | error e0 =>
      obtain ⟨y, p⟩ := e0
      have HRX := Lib.hid (show R = .error (y, p) from HR.out.symm.trans (rule_left_err hsl))
      rw [hsl] at HS1
      clear hsl
      go_wp2_with fail
      refine HS1.out.mono ?_
      rintro e w9 ⟨he, hb9⟩
      unfold thrown at he
      subst he
      have HB9 := Lib.hid (HF2.out.but.trans hb9)
      clear hb9
      go_wp2_with fail
      rw [HRX.out]
      exact ⟨rfl, rfl, HB9.out⟩
    | ok q =>
      obtain ⟨l, j⟩ := q
      have HSL := Lib.hid hsl
      rw [hsl] at HS1
      clear hsl
      go_wp2_with fail
      refine HS1.out.mono ?_
      rintro e w3 ⟨⟨L1, a1, x1, L2, a2, x2, L3, a3, x3, rfl, hsx⟩, hc3, hb3⟩
      obtain ⟨ls, lf, lb, lsr, la, lc⟩ := l
      dsimp only at hsx
      have HF3 := Lib.hid (HF2.out.step hc3 hb3)
      have hPlt : w.heap.size < w3.heap.size := HF3.out.res.lt
      have hP0 := HF2.out.res.lt
      have hPC : w3.heap.size ≠ C := by have := HF3.out.cur.lt; have := HF3.out.but.1; omega
      have hblk := Blk.new w3 98 #[.int .i64 2, .string ⟨#[]⟩, .slice none 0 0, .int .i64 0, .bool ls, .bool lf, .slice L1 a1 x1, .slice L2 a2 x2, .slice L3 a3 x3, .int .i64 lc, .bool false, .bool false, .slice none 0 0, .slice none 0 0, .slice none 0 0, .int .i64 0]
      have hbw : Below w3.heap.size w3 (w3.alloc (.cells #[.int .i64 2, .string ⟨#[]⟩, .slice none 0 0, .int .i64 0, .bool ls, .bool lf, .slice L1 a1 x1, .slice L2 a2 x2, .slice L3 a3 x3, .int .i64 lc, .bool false, .bool false, .slice none 0 0, .slice none 0 0, .slice none 0 0, .int .i64 0] 98)) := (Below.refl _ _).alloc (Nat.le_refl _) _
      have HF4 := Lib.hid (HF3.out.below hbw)
      have HBK4 := Lib.hid hblk
      have HSX4 := Lib.hid (hsx.keep (Keeps.alloc (X' := fun b => PtX w C b ∧ b ≠ w3.heap.size) (.cells #[.int .i64 2, .string ⟨#[]⟩, .slice none 0 0, .int .i64 0, .bool ls, .bool lf, .slice L1 a1 x1, .slice L2 a2 x2, .slice L3 a3 x3, .int .i64 lc, .bool false, .bool false, .slice none 0 0, .slice none 0 0, .slice none 0 0, .int .i64 0] 98) (fun b hb hl => ⟨⟨by have := hb.1; omega, hb.2⟩, by omega⟩)))
      clear hbw hblk hsx hc3 hb3 y1
      have HAR := Lib.hid (rd_arrow _ C A n c L j HF4.out.cur.cur)
      cases har : arrowR L j with
      | error e0 =>
        obtain ⟨y, p⟩ := e0
        have HRX := Lib.hid (show R = .error (y, p) from HR.out.symm.trans (rule_arrow_err HSL.out har))
        rw [har] at HAR
        clear har
        go_wp2_with fail
        refine HAR.out.mono ?_
        rintro e w9 ⟨he, hb9⟩
        unfold thrown at he
        subst he
        have HB9 := Lib.hid (HF4.out.but.trans hb9)
        clear hb9
        go_wp2_with fail
        rw [HRX.out]
        exact ⟨rfl, rfl, HB9.out⟩
      | ok q =>
        obtain ⟨d, k⟩ := q
        have HAE := Lib.hid har
        have hdir := arrow_dir har
        rw [har] at HAR
        clear har
        go_wp2_with fail
        refine HAR.out.mono ?_
        rintro e w5 ⟨rfl, hc5, hb5⟩
        have hf5 := HF4.out.step hc5 hb5
        have hk5 := blk_step HBK4.out hb5 hPC
        have hx5 := HSX4.out.keep (hb5.keeps (X' := fun b => PtX w C b ∧ b ≠ w3.heap.size) (fun b h => h.1.2) (fun _ h _ => h))
        have x5 := hk5.cell 3
        have z5 := hk5.frozen 3
        have HF6 := Lib.hid (hf5.put hPlt 3 (.int .i64 d))
        have HBK6 := Lib.hid (show Blk (w5.setCell ⟨w3.heap.size, 3, none⟩ (.int .i64 d)) w3.heap.size 98 #[.int .i64 2, .string ⟨#[]⟩, .slice none 0 0, .int .i64 d, .bool ls, .bool lf, .slice L1 a1 x1, .slice L2 a2 x2, .slice L3 a3 x3, .int .i64 lc, .bool false, .bool false, .slice none 0 0, .slice none 0 0, .slice none 0 0, .int .i64 0] from hk5.put 3 _)
        have HSX6 := Lib.hid (hx5.keep (Keeps.setCell (p := ⟨w3.heap.size, 3, none⟩) (X' := fun b => PtX w C b ∧ b ≠ w3.heap.size) (.int .i64 d) (fun b h => h.2) (fun _ h _ => h)))
        clear hf5 hk5 hx5 hc5 hb5
        have HS2 := Lib.hid (HSD.out _ k HF6.out.cur.cur)
        have hz6 : w3.heap.size < (w5.setCell ⟨w3.heap.size, 3, none⟩ (.int .i64 d)).heap.size := HBK6.out.lt
        cases hsr : sideR L k with
        | error e0 =>
          obtain ⟨y, p⟩ := e0
          have HRX := Lib.hid (show R = .error (y, p) from HR.out.symm.trans (rule_right_err HSL.out HAE.out hsr))
          rw [hsr] at HS2
          clear hsr
          go_wp2_with fail
          refine HS2.out.mono ?_
          rintro e w9 ⟨he, hb9⟩
          unfold thrown at he
          subst he
          have HB9 := Lib.hid (HF6.out.but.trans hb9)
          clear hb9
          go_wp2_with fail
          rw [HRX.out]
          exact ⟨rfl, rfl, HB9.out⟩
        | ok q =>
          obtain ⟨r, m⟩ := q
          have HRW := Lib.hid (HR.out.symm.trans (rule_wrong HSL.out HAE.out hsr))
          have HRG := Lib.hid hsr
          rw [hsr] at HS2
          clear hsr
          go_wp2_with fail
          refine HS2.out.mono ?_
          rintro e w7 ⟨⟨R1, b1, y1, R2, b2, y2, R3, b3, y3, rfl, hry⟩, hc7, hb7⟩
          obtain ⟨rs, rf, rb, rsr, ra, rc⟩ := r
          dsimp only at hry HRW ⊢
          have hf7 := HF6.out.step hc7 hb7
          have hk7 := blk_step HBK6.out hb7 hPC
          have hlx7 := HSX6.out.keep (hb7.keeps (X' := fun b => PtX w C b ∧ b ≠ w3.heap.size) (fun b h => h.1.2) (fun _ h _ => h))
          have hrx7 := hry.keep (Keeps.refl (X' := fun b => PtX w C b ∧ b ≠ w3.heap.size) (fun b hb => ⟨⟨by have := hb.1; omega, hb.2⟩, by have := hb.1; omega⟩))
          have x10 := hk7.cell 10
          have z10 := hk7.frozen 10
          have x11 := hk7.cell 11
          have z11 := hk7.frozen 11
          have x12 := hk7.cell 12
          have z12 := hk7.frozen 12
          have x13 := hk7.cell 13
          have z13 := hk7.frozen 13
          have x14 := hk7.cell 14
          have z14 := hk7.frozen 14
          have x15 := hk7.cell 15
          have z15 := hk7.frozen 15
          obtain ⟨hk8, hkp⟩ := six_puts (X := fun b => PtX w C b ∧ b ≠ w3.heap.size) (X' := PtX w C) (.int .i64 2) (.string ⟨#[]⟩) (.slice none 0 0) (.int .i64 d) (.bool ls) (.bool lf) (.slice L1 a1 x1) (.slice L2 a2 x2) (.slice L3 a3 x3) (.int .i64 lc) (.bool rs) (.bool rf) (.slice R1 b1 y1) (.slice R2 b2 y2) (.slice R3 b3 y3) (.int .i64 rc) (.bool false) (.bool false) (.slice none 0 0) (.slice none 0 0) (.slice none 0 0) (.int .i64 0) hk7 (fun b h => h.2) (fun b h => h.1)
          have HF8 := Lib.hid ((((((hf7.put hPlt 10 (.bool rs)).put hPlt 11 (.bool rf)).put hPlt 12 (.slice R1 b1 y1)).put hPlt 13 (.slice R2 b2 y2)).put hPlt 14 (.slice R3 b3 y3)).put hPlt 15 (.int .i64 rc))
          have HPX8 := Lib.hid (show PartX _ (PtX w C) ⟨2, noName, [], d, ⟨ls, lf, lb, lsr, la, lc⟩, ⟨rs, rf, rb, rsr, ra, rc⟩⟩ [.int .i64 2, .string ⟨#[]⟩, .slice none 0 0, .int .i64 d, .bool ls, .bool lf, .slice L1 a1 x1, .slice L2 a2 x2, .slice L3 a3 x3, .int .i64 lc, .bool rs, .bool rf, .slice R1 b1 y1, .slice R2 b2 y2, .slice R3 b3 y3, .int .i64 rc] from ⟨none, 0, 0, [.bool ls, .bool lf, .slice L1 a1 x1, .slice L2 a2 x2, .slice L3 a3 x3, .int .i64 lc], [.bool rs, .bool rf, .slice R1 b1 y1, .slice R2 b2 y2, .slice R3 b3 y3, .int .i64 rc], rfl, RdX.nil 2, Nat.zero_le _, hlx7.keep hkp, hrx7.keep hkp, show i64R 2 from ⟨by decide, by decide⟩, show i64R d by unfold i64R; omega, Nat.zero_le _⟩)
          have HBK8 := Lib.hid hk8
          have HLS8 := Lib.hid (hlx7.keep hkp)
          have HRS8 := Lib.hid (hrx7.keep hkp)
          clear hf7 hk7 hlx7 hrx7 hkp hk8 hry hc7 hb7
          go_upto_region 24 with fail
          have hHF := HF8.out
          have hHB := HBK8.out
          have hHP := HPX8.out
          have hHL := HLS8.out
          have hHR := HRS8.out
          clear HF8 HBK8 HPX8 HLS8 HRS8 x5 z5 x10 z10 x11 z11 x12 z12 x13 z13 x14 z14 x15 z15
          generalize ((((((w7.setCell ⟨w3.heap.size, 10, none⟩ (.bool rs)).setCell ⟨w3.heap.size, 11, none⟩ (.bool rf)).setCell ⟨w3.heap.size, 12, none⟩ (.slice R1 b1 y1)).setCell ⟨w3.heap.size, 13, none⟩ (.slice R2 b2 y2)).setCell ⟨w3.heap.size, 14, none⟩ (.slice R3 b3 y3)).setCell ⟨w3.heap.size, 15, none⟩ (.int .i64 rc)) = w8 at *
          have HF8 := Lib.hid hHF
          have HBK8 := Lib.hid hHB
          have HPX8 := Lib.hid hHP
          clear hHF hHB hHP
          have HPT := Lib.hid (show Calls Tryz.prog 70 #[.agg #[.int .i64 2, .string ⟨#[]⟩, .slice none 0 0, .int .i64 d, .bool ls, .bool lf, .slice L1 a1 x1, .slice L2 a2 x2, .slice L3 a3 x3, .int .i64 lc, .bool rs, .bool rf, .slice R1 b1 y1, .slice R2 b2 y2, .slice R3 b3 y3, .int .i64 rc]] w8 fun e w' => e = .returned (.int .i64 (partP ⟨2, noName, [], d, ⟨ls, lf, lb, lsr, la, lc⟩, ⟨rs, rf, rb, rsr, ra, rc⟩⟩)) ∧ Below w8.heap.size w8 w' by
            obtain ⟨_, _, _, _, _, _, _, _, _, he, l1, l2, l3, la1, la2, la3, _⟩ := hHL
            cases he
            obtain ⟨_, _, _, _, _, _, _, _, _, he, r1, r2, r3, ra1, ra2, ra3, _⟩ := hHR
            cases he
            exact rulesyn_part ⟨2, noName, [], d, ⟨ls, lf, lb, lsr, la, lc⟩, ⟨rs, rf, rb, rsr, ra, rc⟩⟩ none 0 0 L1 L2 L3 R1 R2 R3 a1 a2 a3 x1 x2 x3 b1 b2 b3 y1 y2 y3 w8 ((RdX.nil (w := w8) (X := PtX w C) 2).rd (fun _ _ h => h)) (Nat.zero_le _) l1.rd l2.rd l3.rd la1 la2 la3 r1.rd r2.rd r3.rd ra1 ra2 ra3)
          clear hHL hHR
          generalize partP ⟨2, noName, [], d, ⟨ls, lf, lb, lsr, la, lc⟩, ⟨rs, rf, rb, rsr, ra, rc⟩⟩ = pe at HPT HRW
          go_wp2_with (refine wpList_load_row (cs := #[.int .i64 2, .string ⟨#[]⟩, .slice none 0 0, .int .i64 d, .bool ls, .bool lf, .slice L1 a1 x1, .slice L2 a2 x2, .slice L3 a3 x3, .int .i64 lc, .bool rs, .bool rf, .slice R1 b1 y1, .slice R2 b2 y2, .slice R3 b3 y3, .int .i64 rc]) rfl rfl structPt infoPt rfl HBK8.out ?_)
          refine HPT.out.mono ?_
          rintro e w9 ⟨rfl, hb9⟩
          have HF9 := Lib.hid (HF8.out.below hb9)
          have hk9 := HBK8.out.below hb9 HBK8.out.lt
          have HPX9 := Lib.hid (HPX8.out.keep (Keeps.below hb9 (X' := PtX w C) (fun _ h _ => h)))
          clear hb9
          by_cases hpe : pe = 0
          · have q0 : (pe != 0) = false := by simpa using hpe
            have HRX := Lib.hid (show R = .ok (⟨2, noName, [], d, ⟨ls, lf, lb, lsr, la, lc⟩, ⟨rs, rf, rb, rsr, ra, rc⟩⟩, m) by rw [HRW.out, if_neg (fun h => h hpe)])
            have HBK9 := Lib.hid hk9
            clear hk9 hpe
            obtain ⟨hone, e1, e2, hlc6, e4⟩ := pt_done HF9.out HPX9.out
            have HE1 := Lib.hid e1
            have HE2 := Lib.hid e2
            have HE4 := Lib.hid e4
            have HON := Lib.hid hone
            have HLC := Lib.hid hlc6
            have HRB := Lib.hid (PtFr.res HF9.out)
            have HLB := Lib.hid HBK9.out
            clear e1 e2 e4 hlc6 hone
            go_wp2_with (first | (refine wpList_load_row (cs := #[.int .i64 2, .string ⟨#[]⟩, .slice none 0 0, .int .i64 d, .bool ls, .bool lf, .slice L1 a1 x1, .slice L2 a2 x2, .slice L3 a3 x3, .int .i64 lc, .bool rs, .bool rf, .slice R1 b1 y1, .slice R2 b2 y2, .slice R3 b3 y3, .int .i64 rc]) rfl rfl structPt infoPt rfl HLB.out ?_) | (refine wpList_store_row (c := #[.int .i64 0, .string ⟨#[]⟩, .slice none 0 0, .int .i64 0, .bool false, .bool false, .slice none 0 0, .slice none 0 0, .slice none 0 0, .int .i64 0, .bool false, .bool false, .slice none 0 0, .slice none 0 0, .slice none 0 0, .int .i64 0]) (vs := #[.int .i64 2, .string ⟨#[]⟩, .slice none 0 0, .int .i64 d, .bool ls, .bool lf, .slice L1 a1 x1, .slice L2 a2 x2, .slice L3 a3 x3, .int .i64 lc, .bool rs, .bool rf, .slice R1 b1 y1, .slice R2 b2 y2, .slice R3 b3 y3, .int .i64 rc]) rfl rfl infoPt rfl HON.out rfl rfl HRB.out ?_))
            (try simp only [Act.put])
            refine bodyPost_ret (v := .agg #[.int .i64 2, .string ⟨#[]⟩, .slice none 0 0, .int .i64 d, .bool ls, .bool lf, .slice L1 a1 x1, .slice L2 a2 x2, .slice L3 a3 x3, .int .i64 lc, .bool rs, .bool rf, .slice R1 b1 y1, .slice R2 b2 y2, .slice R3 b3 y3, .int .i64 rc]) (results_row Tryz.results58 rfl structPt infoPt HLC.out) rfl ?_
            rw [HRX.out]
            exact ⟨⟨_, rfl, HE4.out⟩, HE1.out, HE2.out⟩
          · have q0 : (pe != 0) = true := by simpa using hpe
            have HRX := Lib.hid (show R = .error (pe, i) by rw [HRW.out, if_pos hpe])
            clear hk9 hpe
            go_wp2_with fail
            refine (syn_fail pe i _).mono ?_
            rintro e w10 ⟨rfl, rfl⟩
            go_wp2_with fail
            rw [HRX.out]
            exact ⟨rfl, rfl, HF9.out.but⟩
end Go.Proofs.YthnhbcohfoodlaaGreatDoor

namespace Go.Proofs.YthnhbcohfoodlaaGreatDoor
open Go.RowKit
theorem rd_part (w : World) (C : Nat) (A : Option Addr) (n c : Nat) (L : List Int) (i : Nat) (h : CurAt w C A n c L i) (hL : ValidL L) (hn : n ≤ 100000) :
    Calls Tryz.prog 58 #[.pointer (some ⟨C, 0, none⟩)] w (PtPost w C A n c L (partR L i)) := by
  unfold partR
  by_cases h58 : pk L i = 58
  · rw [if_pos h58]
    exact rd_part_pass w C A n c L i h hL hn h58
  · rw [if_neg h58]
    by_cases hv : pk L i = 36 ∧ pk L (spaceP L (wordEnd L (i + 1))) = 61
    · rw [if_pos hv]
      exact rd_part_var w C A n c L i h hL hn hv.1 (decide_eq_true hv.2)
    · rw [if_neg hv]
      exact rd_part_rule w C A n c L i h hL hn h58 (fun x => hv ⟨x.1, of_decide_eq_true x.2⟩)
end Go.Proofs.YthnhbcohfoodlaaGreatDoor
