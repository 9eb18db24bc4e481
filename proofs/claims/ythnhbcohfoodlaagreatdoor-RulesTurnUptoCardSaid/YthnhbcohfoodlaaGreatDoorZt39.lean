/- RdQuoted + RdFr -/
import Derived.Test.YthnhbcohfoodlaaGreatDoorZt38
import Derived.Test.YthnhbcohfoodlaaGreatDoorZt15
namespace Go.Proofs.YthnhbcohfoodlaaGreatDoor
open Go.RowKit
theorem infoItemQ : (Tryz.prog.info? 114).map (fun i => (i.zero, i.size, i.bytes)) = some (some (.agg #[.int .i64 0, .int .i32 0, .slice none 0 0, .string ⟨#[]⟩]), 4, 56) := by kernel_rfl
def qCells (l : List Int) : List Value := l.flatMap fun x => [.int .i64 1, .int .i32 x, .slice none 0 0, .string ⟨#[]⟩]
theorem qCells_snoc (l : List Int) (x : Int) : qCells (l ++ [x]) = qCells l ++ [.int .i64 1, .int .i32 x, .slice none 0 0, .string ⟨#[]⟩] := by simp [qCells]
theorem q_one (x : Int) : ∀ u ∈ [Value.int .i64 1, .int .i32 x, .slice none 0 0, .string ⟨#[]⟩], u.oneCell' = true := by
 intro u hu
 simp at hu
 rcases hu with rfl | rfl | rfl | rfl <;> rfl
theorem textAt_snoc {L : List Int} {a j : Nat} (ha : a ≤ j) (hj : j < L.length) : textAt L a (j + 1) = textAt L a j ++ [pk L j] := by
 unfold textAt
 rw [show j + 1 - a = (j - a) + 1 by omega, List.take_add_one, List.getElem?_drop, show a + (j - a) = j by omega, List.getElem?_eq_getElem hj, pk_at (List.getElem?_eq_getElem hj)]
 rfl
theorem textAt_none (L : List Int) (a : Nat) : textAt L a a = [] := by unfold textAt; rw [Nat.sub_self]; rfl
theorem but_below {w w1 w2 : World} {C : Nat} (h : But w C w1) (hb : Below w.heap.size w1 w2) : But w C w2 :=
 ⟨Nat.le_trans h.1 hb.size, hb.os.trans h.2.1, hb.tape.trans h.2.2.1, hb.output.trans h.2.2.2.1, fun k hk hne => (hb.block k hk).trans (h.2.2.2.2 k hk hne)⟩
structure CurLo (lo : Nat) (w : World) (C : Nat) (A : Option Addr) (n c : Nat) (L : List Int) (i : Nat) : Prop where
 cur : CurAt w C A n c L i
 row : RdX w (fun b => b ≠ C ∧ b < lo) 1 A n (runeCells L)
 lt : C < lo
theorem CurLo.start {w : World} {C : Nat} {A : Option Addr} {n c : Nat} {L : List Int} {i : Nat} (h : CurAt w C A n c L i) : CurLo w.heap.size w C A n c L i :=
 ⟨h, h.row.keep (fun _ hX hl => ⟨rfl, ⟨hX, hl⟩, hl⟩), h.blk.lt⟩
theorem CurLo.but {lo : Nat} {w w' : World} {C : Nat} {A : Option Addr} {n c : Nat} {L : List Int} {i j : Nat} (h : CurLo lo w C A n c L i) (hc : CurAt w' C A n c L j) (hb : But w C w') : CurLo lo w' C A n c L j :=
 ⟨hc, h.row.keep (hb.keeps (fun _ h => h.1) (fun _ h _ => h)), h.lt⟩
theorem CurLo.below {lo : Nat} {w w' : World} {C : Nat} {A : Option Addr} {n c : Nat} {L : List Int} {i : Nat} (h : CurLo lo w C A n c L i) (hb : Below lo w w') : CurLo lo w' C A n c L i := by
 have hr : RdX w' (fun b => b ≠ C ∧ b < lo) 1 A n (runeCells L) := h.row.keep (fun b hX hl => ⟨hb.block b hX.2, hX, Nat.lt_of_lt_of_le hl hb.size⟩)
 exact ⟨⟨h.cur.blk.same (hb.block C h.lt), hr.lift (fun _ h => h.1), h.cur.size, h.cur.le, h.cur.cap⟩, hr, h.lt⟩
theorem CurLo.drewN {lo : Nat} {w : World} {C : Nat} {A : Option Addr} {n c : Nat} {L : List Int} {i : Nat} (h : CurLo lo w C A n c L i) (k : Nat) : CurLo lo (w.drewN k) C A n c L i := h.but (h.cur.drewN k) (But.drewN w C k)
def QtPost (w : World) (C : Nat) (A : Option Addr) (n c : Nat) (L : List Int) (i : Nat) (e : Ending) (w' : World) : Prop :=
 (pk L (runFrom notQ L (i + 1)) = 39 ∧ (∃ B m d, e = .returned (.slice B m d) ∧ RdX w' (fun b => w.heap.size ≤ b) 4 B m (qCells (textAt L (i + 1) (runFrom notQ L (i + 1)))) ∧ m ≤ d ∧ m ≤ n) ∧ CurAt w' C A n c L (runFrom notQ L (i + 1) + 1) ∧ But w C w') ∨
   (pk L (runFrom notQ L (i + 1)) ≠ 39 ∧ e = thrown 2 (runFrom notQ L (i + 1)) ∧ But w C w')
set_option maxHeartbeats 3200000 in
set_option maxRecDepth 100000 in
theorem rd_quoted (w : World) (C : Nat) (A : Option Addr) (n c : Nat) (L : List Int) (i : Nat) (h : CurAt w C A n c L i) (hi : i < n) (hn : n ≤ 100000) :
 Calls Tryz.prog 179 #[.pointer (some ⟨C, 0, none⟩)] w (QtPost w C A n c L i) := by
 obtain ⟨i0, hii, z0, z1, z2⟩ := info_parts infoItemQ
 have hl := h.len
 have hw1 : IntKind.i64.wrap ((i : Int) + 1) = (i : Int) + 1 := wrap_small _ (by omega) (by omega)
 obtain ⟨d1, d2, d3, d4⟩ := h.step hi
 have HLO := Lib.hid ((CurLo.start h).but d3 d4)
 have HB0 := Lib.hid d4
 have HPK := Lib.hid (fun (W : World) (m : Nat) (h : CurAt W C A n c L m) => cur_peek W C A n c L m h)
 obtain ⟨r, hr⟩ : ∃ r, runFrom notQ L (i + 1) = r := ⟨_, rfl⟩
 have HR := Lib.hid hr
 unfold QtPost
 rw [hr]
 clear h d3 d4 hr
 go_enter Tryz.func179, Tryz.ntmps179
 go_wp2_with fail
 go_loopw [3] (fun out wr => ∃ j : Nat, i + 1 ≤ j ∧ j ≤ n ∧ r = runFrom notQ L j ∧ wr.ownsRow w.heap.size 114 4 out (j - (i + 1)) (qCells (textAt L (i + 1) j)) ∧ CurLo w.heap.size wr C A n c L j ∧ But w C wr) (fun _ wr => n - (match wr.cell? ⟨C, 1, none⟩ with | some (.int _ j) => j.toNat | _ => 0))
 case atStart => exact ⟨i + 1, Nat.le_refl _, hi, HR.out.symm, by rw [Nat.sub_self, textAt_none]; exact World.ownsRow_nil _ _ _ _, HLO.out, HB0.out⟩
 case round =>
  obtain ⟨j, hij, hjn, hrun, hown, hcj, hbj⟩ := hrel
  have HJ := Lib.hid hcj
  have HB := Lib.hid hbj
  have HO := Lib.hid hown
  have HRUN := Lib.hid hrun
  have HM0 := Lib.hid (hcj.cur.blk.cell 1)
  obtain ⟨Av, cv, rfl, hcv⟩ := own_form hown
  have hwj : IntKind.i64.wrap ((j : Int) + 1) = (j : Int) + 1 := wrap_small _ (by omega) (by omega)
  obtain ⟨x, hx⟩ : ∃ x, pk L j = x := ⟨_, rfl⟩
  have HX := Lib.hid hx
  have HP := Lib.hid (fun (W : World) (h : CurAt W C A n c L j) => show Calls Tryz.prog 57 #[.pointer (some ⟨C, 0, none⟩)] W fun e w' => e = .returned (.int .i32 x) ∧ ∃ m, w' = W.drewN m by have := HPK.out W j h; rwa [hx] at this)
  clear hcj hbj hown hrun hx
  by_cases h39 : x = 39
  ·have hj : r = j := HRUN.out.trans (runFrom_out (fun _ => by rw [HX.out, h39]; rfl))
   have hlt : j < n := by rw [← hl]; exact pk_lt (by rw [HX.out]; omega)
   subst h39
   go_wp2_with fail
   refine (HP.out _ HJ.out.cur).mono ?_
   rintro e w3 ⟨rfl, m3, hw3⟩
   have HJ3 := Lib.hid (HJ.out.drewN m3)
   have HB3 := Lib.hid (HB.out.trans (But.drewN _ C m3))
   have HO3 := Lib.hid (show (World.drewN _ m3).ownsRow w.heap.size 114 4 _ _ _ from HO.out)
   rw [← hw3] at HJ3 HB3 HO3
   clear hw3
   have HRD := Lib.hid (RdX.of_own (X := fun b => w.heap.size ≤ b) HO3.out (fun b hb => (own_lt HO3.out hb).1))
   obtain ⟨s1, s2, s3, s4⟩ := HJ3.out.cur.step hlt
   have HC4 := Lib.hid s3
   have HB4 := Lib.hid (HB3.out.trans s4)
   have hCl := HJ3.out.lt
   have HRD4 := Lib.hid (HRD.out.keep (s4.keeps (X' := fun b => w.heap.size ≤ b) (fun b h => by omega) (fun b h _ => h)))
   clear s3 s4
   have HJR := Lib.hid hj
   clear hj
   go_wp2_with fail
   go_ret
   left
   rw [HJR.out]
   exact ⟨HX.out, ⟨Av, _, cv, rfl, HRD4.out, hcv, by omega⟩, HC4.out, HB4.out⟩
  ·have hq39 : (x != 39) = true := by simp; exact h39
   by_cases hneg : x < 0
   ·have hj : r = j := HRUN.out.trans (runFrom_out (fun _ => by rw [HX.out]; unfold notQ; rw [decide_eq_false (by omega)]; rfl))
    have HJR := Lib.hid hj
    have HNE := Lib.hid (show pk L j ≠ 39 by rw [HX.out]; exact h39)
    clear hj h39
    go_wp2_with fail
    refine (HP.out _ HJ.out.cur).mono ?_
    rintro e w3 ⟨rfl, m3, hw3⟩
    have HJ3 := Lib.hid (HJ.out.drewN m3)
    have HB3 := Lib.hid (HB.out.trans (But.drewN _ C m3))
    have HO3 := Lib.hid (show (World.drewN _ m3).ownsRow w.heap.size 114 4 _ _ _ from HO.out)
    rw [← hw3] at HJ3 HB3 HO3
    clear hw3
    go_wp2_with fail
    refine (HP.out _ HJ3.out.cur).mono ?_
    rintro e w4 ⟨rfl, m4, hw4⟩
    have HJ4 := Lib.hid (HJ3.out.drewN m4)
    have HB4 := Lib.hid (HB3.out.trans (But.drewN _ C m4))
    have HO4 := Lib.hid (show (World.drewN _ m4).ownsRow w.heap.size 114 4 _ _ _ from HO3.out)
    rw [← hw4] at HJ4 HB4 HO4
    clear hw4
    have k1 := HJ4.out.cur.blk.cell 1
    go_wp2_with fail
    refine (syn_fail 2 j _).mono ?_
    rintro e w5 ⟨rfl, rfl⟩
    go_wp2_with fail
    rw [HJR.out]
    exact ⟨rfl, .inr ⟨HNE.out, rfl, HB4.out⟩⟩
   ·have hge : decide (x < 0) = false := decide_eq_false hneg
    have hlt : j < n := by rw [← hl]; exact pk_lt (by rw [HX.out]; omega)
    have HNX := Lib.hid (HRUN.out.trans (runFrom_in (p := notQ) (by omega) (by rw [HX.out]; unfold notQ; simp; omega)))
    have HTX := Lib.hid (show qCells (textAt L (i + 1) (j + 1)) = qCells (textAt L (i + 1) j) ++ [.int .i64 1, .int .i32 x, .slice none 0 0, .string ⟨#[]⟩] by rw [textAt_snoc hij (by omega), qCells_snoc, HX.out])
    clear h39 hneg
    go_wp2_with fail
    refine (HP.out _ HJ.out.cur).mono ?_
    rintro e w3 ⟨rfl, m3, hw3⟩
    have HJ3 := Lib.hid (HJ.out.drewN m3)
    have HB3 := Lib.hid (HB.out.trans (But.drewN _ C m3))
    have HO3 := Lib.hid (show (World.drewN _ m3).ownsRow w.heap.size 114 4 _ _ _ from HO.out)
    rw [← hw3] at HJ3 HB3 HO3
    clear hw3
    go_wp2_with fail
    refine (HP.out _ HJ3.out.cur).mono ?_
    rintro e w4 ⟨rfl, m4, hw4⟩
    have HJ4 := Lib.hid (HJ3.out.drewN m4)
    have HB4 := Lib.hid (HB3.out.trans (But.drewN _ C m4))
    have HO4 := Lib.hid (show (World.drewN _ m4).ownsRow w.heap.size 114 4 _ _ _ from HO3.out)
    rw [← hw4] at HJ4 HB4 HO4
    clear hw4
    have HN9 := Lib.hid (fun (W : World) => Rd.new W 114 4 1 [.int .i64 1, .int .i32 x, .slice none 0 0, .string ⟨#[]⟩] rfl)
    go_wp2_with fail
    refine (HP.out _ HJ4.out.cur).mono ?_
    rintro e w5 ⟨rfl, m5, hw5⟩
    have HJ5 := Lib.hid (HJ4.out.drewN m5)
    have HB5 := Lib.hid (HB4.out.trans (But.drewN _ C m5))
    have HO5 := Lib.hid (show (World.drewN _ m5).ownsRow w.heap.size 114 4 _ _ _ from HO4.out)
    rw [← hw5] at HJ5 HB5 HO5
    clear hw5
    have HO6 := Lib.hid (World.ownsRow.alloc HO5.out (.cells #[.int .i64 1, .int .i32 x, .slice none 0 0, .string ⟨#[]⟩] 114))
    have hb6 := (Below.refl w5.heap.size w5).alloc (Nat.le_refl _) (.cells #[.int .i64 1, .int .i32 x, .slice none 0 0, .string ⟨#[]⟩] 114)
    have hw5 := HB5.out.1
    have HB6 := Lib.hid (But.below (w := w5) C hb6)
    have HBW := Lib.hid (HB5.out.trans HB6.out)
    have HJ6 := Lib.hid (HJ5.out.below (hb6.mono hw5))
    have hsz := HBW.out.1
    clear hb6
    go_wp2_with (at_builtin; refine wpList_append_rd _ rfl (.tmp 29) (.tmp 35) 94 rfl w.heap.size 114 i0 _ 4 56 Tryz.underlying94 hii z0 z1 z2 rfl (by decide) _ _ _ rfl HO6.out (w5.heap.size + 1) (some ⟨w5.heap.size, 0, none⟩) 1 1 [.int .i64 1, .int .i32 x, .slice none 0 0, .string ⟨#[]⟩] rfl (HN9.out w5) (q_one x) (by simp only [maxLen]; omega) (by omega) hsz ?_)
    intro v' w9 happ
    have hb9 := happ.below hsz HO6.out
    have HJ9 := Lib.hid (HJ6.out.below hb9)
    have HB9 := Lib.hid (but_below HBW.out hb9)
    have HO9 := Lib.hid (show w9.ownsRow w.heap.size 114 4 v' (j + 1 - (i + 1)) (qCells (textAt L (i + 1) (j + 1))) by
     have := happ.own
     rw [HTX.out, show j + 1 - (i + 1) = j - (i + 1) + 1 by omega]
     exact this)
    clear happ hb9
    obtain ⟨s1, s2, s3, s4⟩ := HJ9.out.cur.step hlt
    have HJA := Lib.hid (HJ9.out.but s3 s4)
    have HBA := Lib.hid (HB9.out.trans s4)
    have hCl := HJ9.out.lt
    obtain ⟨A9, c9, rfl, _⟩ := own_form HO9.out
    have HOA := Lib.hid (ownsRow_setCell_below HO9.out (a := ⟨C, 1, none⟩) hCl (.int .i64 ((j : Int) + 1)))
    clear s3 s4
    go_wp2_with fail
    refine ⟨⟨j + 1, by omega, hlt, HNX.out, HOA.out, HJA.out, HBA.out⟩, ?_⟩
    have e1 : (w9.setCell ⟨C, 1, none⟩ (.int .i64 ((j : Int) + 1))).cell? ⟨C, 1, none⟩ = some (.int .i64 ((j + 1 : Nat) : Int)) := HJA.out.cur.blk.cell 1
    have e2 : wr.cell? ⟨C, 1, none⟩ = some (.int .i64 (j : Int)) := HM0.out
    rw [e1, e2]
    simp only [Int.toNat_natCast]
    omega
end Go.Proofs.YthnhbcohfoodlaaGreatDoor

namespace Go.Proofs.YthnhbcohfoodlaaGreatDoor
open Go.RowKit
def ItemZ (w : World) (X : Nat → Prop) (a : ItemD) (cs : List Value) : Prop :=
 ∃ A n c, cs = [.int .i64 a.kind, .int .i32 a.rune, .slice A n c, .string a.name] ∧ RdX w X 2 A n (spanCells a.set) ∧ n ≤ c ∧ n ≤ maxLen
theorem ItemZ.keep {w w' : World} {X X' : Nat → Prop} (hk : Keeps w X w' X') (a : ItemD) (cs : List Value) (h : ItemZ w X a cs) : ItemZ w' X' a cs := by
 obtain ⟨A, n, c, e, h1, h2⟩ := h
 exact ⟨A, n, c, e, h1.keep hk, h2⟩
theorem ItemZ.one {w : World} {X : Nat → Prop} {a : ItemD} {cs : List Value} (h : ItemZ w X a cs) : ∀ u ∈ cs, u.oneCell' = true := by
 obtain ⟨A, n, c, rfl, _⟩ := h
 intro u hu
 simp at hu
 rcases hu with rfl | rfl | rfl | rfl <;> rfl
def ItX (lo C : Nat) (v : Value) (b : Nat) : Prop := lo ≤ b ∧ b ≠ C ∧ v.ownBlock ≠ some b
def ItOwn (lo C : Nat) (w : World) (v : Value) (l : List ItemD) : Prop := OwnL (ItemZ w (ItX lo C v)) 114 4 w lo v l
theorem own_but {w w' : World} {C base sz n : Nat} {e : TypeId} {v : Value} {xs : List Value} (h : w.ownsRow base e sz v n xs) (hb : But w C w') (hC : C < base) : w'.ownsRow base e sz v n xs := by
 refine ⟨h.1, ?_⟩
 rcases h.2 with h2 | ⟨g, cap, cur, hv, hg, hh, r⟩
 ·exact .inl h2
 ·exact .inr ⟨g, cap, cur, hv, hg, (hb.2.2.2.2 g (Array.getElem?_eq_some_iff.1 hh).1 (by omega)).trans hh, r⟩
theorem ItOwn.but {lo C : Nat} {w w' : World} {v : Value} {l : List ItemD} (h : ItOwn lo C w v l) (hb : But w C w') (hC : C < lo) : ItOwn lo C w' v l :=
 OwnL.kept (fun _ _ ho => own_but ho hb hC) (ItemZ.keep (hb.keeps (fun _ h => h.2.1) (fun _ h _ => h))) h
theorem itX_app {lo C m sz : Nat} {e : TypeId} {v v' : Value} {ys : List Value} {w w2 : World} (ha : Appended lo e sz v w m ys v' w2) : Keeps w (ItX lo C v) w2 (ItX lo C v') := by
 refine Keeps.app ha (fun b hb => hb.2.2) (fun b hb hl => ⟨hb.1, hb.2.1, ?_⟩)
 rcases ha.2.2 with e | e
 ·rw [e]; exact hb.2.2
 ·rw [e]
  intro h
  injection h with h
  omega
theorem ItOwn.push {lo C : Nat} {w : World} {v : Value} {l : List ItemD} (h : ItOwn lo C w v l) (a : ItemD) {cs : List Value} (ha : ItemZ w (ItX lo C v) a cs) (hcs : cs.length = 4) :
 ∃ ys, w.ownsRow lo 114 4 v l.length ys ∧ ∀ v' w', Appended lo 114 4 v w (l.length + 1) (ys ++ cs) v' w' → ItOwn lo C w' v' (l ++ [a]) := by
 obtain ⟨css, h1, h2, h3, h4⟩ := h
 refine ⟨css.flatten, h4, fun v' w' happ => ?_⟩
 have hk : Keeps w (ItX lo C v) w' (ItX lo C v') := itX_app happ
 exact OwnL.push h1 h2 h3 (ItemZ.keep hk) (ha.keep hk) hcs happ
def qc (x : Int) : List Value := [.int .i64 1, .int .i32 x, .slice none 0 0, .string ⟨#[]⟩]
theorem qc_flat (rs : List Int) : (rs.map qc).flatten = qCells rs := by unfold qCells; rw [List.flatMap_def]; rfl
theorem runeI_z (w : World) (X : Nat → Prop) (x : Int) : ItemZ w X (runeI x) (qc x) := ⟨none, 0, 0, rfl, ⟨rfl, fun h => absurd h (by omega)⟩, Nat.le_refl _, Nat.zero_le _⟩
theorem ItOwn.runes {lo C : Nat} {w : World} {v : Value} {l : List ItemD} (h : ItOwn lo C w v l) (rs : List Int) :
 ∃ ys, w.ownsRow lo 114 4 v l.length ys ∧ ∀ v' w', Appended lo 114 4 v w (l.length + rs.length) (ys ++ qCells rs) v' w' → ItOwn lo C w' v' (l ++ rs.map runeI) := by
 obtain ⟨css, h1, h2, h3, h4⟩ := h
 refine ⟨css.flatten, h4, fun v' w' happ => ?_⟩
 have hk : Keeps w (ItX lo C v) w' (ItX lo C v') := itX_app happ
 refine ⟨css ++ rs.map qc, by simp [h1], ?_, ?_, ?_⟩
 ·intro i a cs ha hc
  rcases Nat.lt_or_ge i l.length with hi | hi
  ·rw [List.getElem?_append_left hi] at ha
   rw [List.getElem?_append_left (by omega)] at hc
   exact ItemZ.keep hk a cs (h2 i a cs ha hc)
  ·rw [List.getElem?_append_right hi, List.getElem?_map] at ha
   rw [List.getElem?_append_right (by omega), h1, List.getElem?_map] at hc
   cases hx : rs[i - l.length]? with
   | none => rw [hx] at ha; cases ha
   | some x =>
     rw [hx] at ha hc
     obtain rfl := Option.some.inj ha
     obtain rfl := Option.some.inj hc
     exact runeI_z w' _ x
 ·intro cs hc
  rcases List.mem_append.1 hc with hc | hc
  ·exact h3 cs hc
  ·obtain ⟨x, _, rfl⟩ := List.mem_map.1 hc
   rfl
 ·have := happ.own
  rw [List.flatten_append, qc_flat, List.length_append, List.length_map]
  exact this
theorem ItOwn.form {lo C : Nat} {w : World} {v : Value} {l : List ItemD} (h : ItOwn lo C w v l) : ∃ A c, v = .slice A l.length c ∧ l.length ≤ c := OwnL.form h
theorem ItOwn.nil (lo C : Nat) (w : World) : ItOwn lo C w (.slice none 0 0) [] := OwnL.nil _ _
theorem ItOwn.below {lo C : Nat} {w w' : World} {v : Value} {l : List ItemD} (h : ItOwn lo C w v l) (hb : Below w.heap.size w w') : ItOwn lo C w' v l :=
 OwnL.kept (fun _ _ ho => own_below ho hb) (ItemZ.keep (Keeps.any hb)) h
theorem ItOwn.apart {lo C : Nat} {w : World} {v : Value} {l : List ItemD} (h : ItOwn lo C w v l) {b : Nat} (hb : w.heap.size ≤ b) : v.ownBlock ≠ some b := by
 obtain ⟨css, h1, h2, h3, h4⟩ := h
 intro e
 have := (own_lt h4 e).2
 omega
end Go.Proofs.YthnhbcohfoodlaaGreatDoor
