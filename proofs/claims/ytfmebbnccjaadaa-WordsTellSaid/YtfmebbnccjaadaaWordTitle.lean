/- The walks of words.Title and scriptref17.Title: they tell titleP. -/
import Derived.Test.YtfmebbnccjaadaaRefSplit
namespace Go.Proofs.Ytfmebbnccjaadaa
open Go.RowKit

theorem tgo_length (h : Int → Bool) : ∀ (t : List Int) (p : Bool), (tgo h p t).length = t.length := by
  intro t
  induction t with
  | nil => intro p; rfl
  | cons r t ih => intro p; rw [tgo, List.length_cons, List.length_cons, ih]
theorem tgo_get (h : Int → Bool) : ∀ (t : List Int) (p : Bool) (i : Nat) (r : Int), t[i]? = some r → (tgo h p t)[i]? = some (if h r then (if (if i = 0 then p else ((t[i - 1]?).map h).getD false) then lowP r else upP r) else r) := by
  intro t
  induction t with
  | nil => intro p i r hi; simp at hi
  | cons x t ih =>
    intro p i r hi
    cases i with
    | zero => simp at hi; subst hi; simp [tgo]
    | succ i =>
      have := ih (h x) i r (by simpa using hi)
      rw [tgo, List.getElem?_cons_succ, this, if_neg (Nat.succ_ne_zero i), Nat.add_sub_cancel]
      congr 3
      cases i with
      | zero => simp
      | succ i => simp
theorem take_snoc'' {α : Type} {l : List α} {k : Nat} {x : α} (h : l[k]? = some x) : l.take (k + 1) = l.take k ++ [x] := by
  rw [List.take_add_one, h]; rfl
theorem mix_set {a b : List Int} {i : Nat} {x : Int} (hl : a.length = b.length) (hi : a[i]? = some x) : (a.take i ++ b.drop i).set i x = a.take (i + 1) ++ b.drop (i + 1) := by
  have h1 : i < a.length := (List.getElem?_eq_some_iff.1 hi).1
  have h2 : (a.take i).length = i := by rw [List.length_take]; omega
  rw [List.set_append_right _ _ (by omega), h2, Nat.sub_self, List.drop_eq_getElem_cons (by omega : i < b.length), List.set_cons_zero, take_snoc'' hi, List.append_assoc]
  rfl
theorem mix_get {a b : List Int} {i : Nat} (hl : a.length = b.length) (hi : i < b.length) : (a.take i ++ b.drop i)[i]? = b[i]? := by
  have h2 : (a.take i).length = i := by rw [List.length_take]; omega
  rw [List.getElem?_append_right (by omega), h2, Nat.sub_self, List.getElem?_drop, Nat.add_zero]
theorem mix_same {a b : List Int} {i j : Nat} (hl : a.length = b.length) (hij : i ≤ j) (he : ∀ k, i ≤ k → k < j → a[k]? = b[k]?) : a.take i ++ b.drop i = a.take j ++ b.drop j := by
  apply List.ext_getElem?
  intro k
  simp only [List.getElem?_append, List.getElem?_take, List.getElem?_drop, List.length_take]
  have hb : ∀ q : Nat, a.length ≤ q → b[q]? = none := fun q hq => List.getElem?_eq_none (by omega)
  have ha : ∀ q : Nat, a.length ≤ q → a[q]? = none := fun q hq => List.getElem?_eq_none hq
  by_cases h1 : k < i
  · by_cases h3 : k < a.length
    · rw [if_pos (by omega), if_pos h1, if_pos (by omega), if_pos (by omega)]
    · rw [if_neg (by omega), if_neg (by omega), hb _ (by omega), hb _ (by omega)]
  · by_cases h3 : k < a.length
    · rw [if_neg (by omega)]
      by_cases h2 : k < j
      · rw [if_pos (by omega), if_pos h2, he k (by omega) h2, show i + (k - min i a.length) = k by omega]
      · rw [if_neg (by omega), show i + (k - min i a.length) = k by omega, show j + (k - min j a.length) = k by omega]
    · rw [if_neg (by omega), if_neg (by omega), hb _ (by omega), hb _ (by omega)]
theorem cells_set (l : List Int) (i : Nat) (x : Int) : (runeCells l).set i (.int .i32 x) = runeCells (l.set i x) := by simp [runeCells, List.map_set]
def TiPost (lo : Nat) (w' : World) (o : List Int × Int) (e : Ending) : Prop :=
  ∃ (A : Option Addr) (n c : Nat), e = .returned (.tuple #[.slice A n c, .int .i64 o.2]) ∧ RdX w' (fun b => lo ≤ b) 1 A n (runeCells o.1)
theorem TiPost.nil (lo : Nat) (w' : World) (a : Int) : TiPost lo w' ([], a) (.returned (.tuple #[.slice none 0 0, .int .i64 a])) := ⟨none, 0, 0, rfl, ⟨rfl, fun h => absurd h (Nat.lt_irrefl 0)⟩⟩
/-- What stands ahead of place a. -/
def Ahead (h : Int → Bool) (t : List Int) (a : Nat) (prev : Option Bool) : Prop := (prev = none ∧ a = 0) ∨ ∃ p, prev = some p ∧ 0 < a ∧ (t[a - 1]?).map h = some p
def TiRel (h : Int → Bool) (t TT : List Int) (ws : List WordD) (nt m : Nat) (W1 : World) (out i : Value) (wr : World) : Prop :=
  ∃ (k a : Nat) (prev : Option Bool), k ≤ m ∧ i = .int .i64 k ∧ a ≤ nt ∧ goodW h t a prev (ws.drop k) ∧ Ahead h t a prev ∧ wr.ownsRow W1.heap.size 21 1 out nt (runeCells (TT.take a ++ t.drop a)) ∧ Below W1.heap.size W1 wr
def TiRel2 (t TT : List Int) (nt a u g : Nat) (cs : Array Value) (W1 : World) (out i_ : Value) (wr : World) : Prop :=
  ∃ i : Nat, a ≤ i ∧ i ≤ u ∧ i_ = .int .i64 i ∧ wr.ownsRow W1.heap.size 21 1 out nt (runeCells (TT.take i ++ t.drop i)) ∧ Blk wr g 69 cs ∧ Below W1.heap.size W1 wr

set_option maxRecDepth 100000 in
set_option maxHeartbeats 6400000 in
theorem words_title (A At : Option Addr) (n c nt ct : Nat) (s : Spans) (t : List Int) (w : World) (hn : n ≤ 9223372036854775807) (hs : RdS w w.heap.size A n s) (hnt : nt ≤ maxLen) (ht : RdR w w.heap.size At nt t) :
    Calls Try.prog 34 #[.slice A n c, .slice At nt ct] w fun e w' => TiPost w.heap.size w' (titleP s t) e ∧ Below w.heap.size w w' := by
  obtain ⟨i0, hi, y0, y1, y2⟩ := info_parts Try.info21
  have HP := Lib.hid (words_split A At n c nt ct s t w hn hs hnt ht)
  have HTX := Lib.hid (fun (W : World) (hb : Below w.heap.size w W) => show RdR W W.heap.size At nt t from (Rd.below ht hb).more hb.size)
  have HTL := Lib.hid (show t.length = nt from ht.len)
  have HGW := Lib.hid (show (splitP s t).2 = 0 → textP t = 0 ∧ (splitP s t).1 = wordsP (t.map (hasP s)) by
    intro h
    unfold splitP at h ⊢
    by_cases h1 : wrongP s = 0
    · rw [if_neg (fun h2 => h2 h1)] at h ⊢
      by_cases h2 : textP t = 0
      · rw [if_neg (fun h3 => h3 h2)] at h ⊢
        exact ⟨h2, rfl⟩
      · rw [if_pos h2] at h; exact absurd h h2
    · rw [if_pos h1] at h; exact absurd h h1)
  obtain ⟨ws, f1, hSP⟩ : ∃ ws f1, splitP s t = (ws, f1) := ⟨_, _, rfl⟩
  have HTI := Lib.hid (show titleP s t = if f1 ≠ 0 then ([], f1) else (tgo (hasP s) false t, 0) by unfold titleP; rw [hSP])
  rw [hSP] at HP HGW
  dsimp only at HP HGW
  clear hs ht hSP
  go_enter Try.func34, Try.ntmps34
  go_wp2_with fail
  refine HP.out.mono ?_
  rintro e w1 ⟨⟨A1, m, c1, rfl, hr, hm⟩, hb1⟩
  dsimp only at hr ⊢
  have HB1 := Lib.hid hb1
  have HR1 := Lib.hid hr
  have HWL := Lib.hid (show ws.length = m by have := hr.1; rw [wordCells_length] at this; omega)
  clear hb1 hr HP
  by_cases hz : f1 = 0
  · subst hz
    have HG := Lib.hid (HTI.out.trans (if_neg (fun h => h rfl)))
    obtain ⟨ht0, hws⟩ := HGW.out rfl
    have hnt4 : nt ≤ 4000 := by have := textP_len' ht0; have := HTL.out; omega
    have HGD := Lib.hid (show goodW (hasP s) t 0 none ws by rw [hws]; exact words_good _ _)
    have HTT := Lib.hid (show (tgo (hasP s) false t).length = t.length from tgo_length _ _ _)
    have HTG := Lib.hid (fun (i : Nat) (r : Int) (h : t[i]? = some r) => tgo_get (hasP s) t false i r h)
    generalize hTTe : tgo (hasP s) false t = TT at *
    have HR2 := Lib.hid (HTX.out w1 HB1.out)
    clear ht0 hws HGW HTI hTTe
    go_wp2_with (at_builtin; refine wpList_append_rd _ rfl _ (.tmp 21) 23 rfl w1.heap.size 21 i0 _ 1 4 Try.underlying23 hi y0 y1 y2 rfl (by decide) _ 0 [] rfl (World.ownsRow_nil _ _ _ _) _ At nt ct (runeCells t) rfl HR2.out (runeCells_one _) (by simp only [maxLen]; omega) (by omega) (Nat.le_refl _) ?_)
    intro v1 w2 happ
    have HB2 := Lib.hid (happ.below_nil)
    have HO2 := Lib.hid (show w2.ownsRow w1.heap.size 21 1 v1 nt (runeCells (TT.take 0 ++ t.drop 0)) by have := happ.own; simpa using this)
    clear happ
    obtain ⟨Av, cv, rfl, _⟩ := own_form HO2.out
    go_wp2_with fail
    go_loopw [25] (TiRel (hasP s) t TT ws nt m w1 (.slice Av nt cv)) (fun i _ => m - (intOf i).toNat)
    case atStart => exact ⟨0, 0, none, Nat.zero_le _, rfl, Nat.zero_le _, HGD.out, .inl ⟨rfl, rfl⟩, HO2.out, HB2.out⟩
    case round =>
      obtain ⟨k, a, prev, hk, rfl, hant, hgw, hah, ho, hb⟩ := hrel
      have HO := Lib.hid ho
      have HB := Lib.hid hb
      have hz := hb.size
      by_cases hlt : k < m
      · obtain ⟨x, hx⟩ : ∃ x, ws[k]? = some x := ⟨_, List.getElem?_eq_getElem (by rw [HWL.out]; exact hlt)⟩
        rw [drop_at hx] at hgw
        obtain ⟨hsrc, hau, hun, hpn, hall, hgw2⟩ := hgw
        obtain ⟨xs, u, inn⟩ := x
        dsimp only at hsrc hau hun hpn hall hgw2
        subst hsrc
        have hun : u ≤ nt := by have := HTL.out; omega
        obtain ⟨b1, o1, rfl, _, hbb, hcc⟩ := HR1.out.2 (by omega)
        obtain ⟨e0, e1, e2⟩ := word_get hx
        have d0 : wr.cell? ⟨b1, o1 + k * 3, none⟩ = some (.int .i64 xs) := (hb.cell (p := ⟨b1, o1 + k * 3, none⟩) hbb).trans (hcc _ _ e0)
        have d1 : wr.cell? ⟨b1, o1 + k * 3 + 1, none⟩ = some (.int .i64 u) := (hb.cell (p := ⟨b1, o1 + k * 3 + 1, none⟩) hbb).trans (by rw [Nat.add_assoc]; exact hcc _ _ e1)
        have d2 : wr.cell? ⟨b1, o1 + k * 3 + 2, none⟩ = some (.bool inn) := (hb.cell (p := ⟨b1, o1 + k * 3 + 2, none⟩) hbb).trans (by rw [Nat.add_assoc]; exact hcc _ _ e2)
        have HALL := Lib.hid hall
        have HGW2 := Lib.hid hgw2
        have HAH2 := Lib.hid (show Ahead (hasP s) t u (some inn) from .inr ⟨inn, rfl, by omega, hall (u - 1) (by omega) (by omega)⟩)
        have HAH := Lib.hid (fun (hi : inn = true) => show (if xs = 0 then false else ((t[xs - 1]?).map (hasP s)).getD false) = false by
          rcases hah with ⟨rfl, rfl⟩ | ⟨p, rfl, h0, h1⟩
          · simp
          · rw [if_neg (by omega), h1]
            subst hi
            cases p
            · rfl
            · exact absurd rfl hpn)
        have hba := (Below.refl wr.heap.size wr).alloc (Nat.le_refl _) (.cells #[.int .i64 xs, .int .i64 u, .bool inn] 69)
        have HX := Lib.hid (Blk.new wr 69 #[.int .i64 xs, .int .i64 u, .bool inn])
        have HB5 := Lib.hid (HB.out.trans (hba.mono hz))
        have HO5 := Lib.hid (own_below ho hba)
        obtain ⟨g, co, hv, _, hg1, hg2⟩ := own_some ho (by omega)
        cases hv
        obtain ⟨wo, rfl⟩ : ∃ wo : World, wo = wr := ⟨_, rfl⟩
        clear hx hall hgw2 hah hpn e0 e1 e2 hcc hba ho hb HO HB
        go_upto_region 8 with fail
        generalize wo.alloc (.cells #[.int .i64 xs, .int .i64 u, .bool inn] 69) = W5 at *
        have hw5 := HX.out.lt
        clear d0 d1 d2
        have x0 := HX.out.cell 0
        cases inn
        · have HOE := Lib.hid (show W5.ownsRow w1.heap.size 21 1 (.slice (some ⟨g, 0, none⟩) nt cv) nt (runeCells (TT.take u ++ t.drop u)) by
            rw [← mix_same (i := xs) HTT.out (by omega) (fun q h1 h2 => by
              obtain ⟨r, hr⟩ : ∃ r, t[q]? = some r := ⟨_, List.getElem?_eq_getElem (by rw [HTL.out]; omega)⟩
              have hh := HALL.out q h1 h2
              rw [hr] at hh
              simp at hh
              rw [HTG.out q r hr, if_neg (by rw [hh]; decide), hr])]
            exact HO5.out)
          have x2 := HX.out.cell 2
          go_wp2_with fail
          go_loopw [] (fun wr => wr = W5) (fun _ => 0)
          case atStart => rfl
          case round =>
            subst hrel
            go_wp2_with fail
            exact ⟨⟨k + 1, u, some false, by omega, by go_num, hun, HGW2.out, HAH2.out, HOE.out, HB5.out⟩, by simp [intOf]; omega⟩
        · go_wp2_with fail
          go_loopw [11] (TiRel2 t TT nt xs u wo.heap.size #[.int .i64 xs, .int .i64 u, .bool true] w1 (.slice (some ⟨g, 0, none⟩) nt cv)) (fun i _ => u - (intOf i).toNat)
          case atStart => exact ⟨xs, Nat.le_refl _, by omega, rfl, HO5.out, HX.out, HB5.out⟩
          case round =>
            obtain ⟨i, hai, hiu, rfl, ho, hx, hb⟩ := hrel
            have HOI := Lib.hid ho
            have HXI := Lib.hid hx
            have HBI := Lib.hid hb
            have q0 := hx.cell 0
            have q1 := hx.cell 1
            have q2 := hx.cell 2
            have hzi := hb.size
            clear ho hx hb
            by_cases hlt2 : i < u
            · obtain ⟨r, hr⟩ : ∃ r, t[i]? = some r := ⟨_, List.getElem?_eq_getElem (by rw [HTL.out]; omega)⟩
              have hh := HALL.out i hai hlt2
              rw [hr] at hh
              simp only [Option.map_some, Option.some.injEq] at hh
              have hTi := HTG.out i r hr
              rw [hh, if_pos rfl] at hTi
              have hcur : (runeCells (TT.take i ++ t.drop i))[i]? = some (.int .i32 r) := by
                rw [runeCells_at, mix_get HTT.out (by rw [HTL.out]; omega), hr]
                rfl
              have c0 : wr.cell? ⟨g, i, none⟩ = some (.int .i32 r) := by
                have h := World.ownsRow.cells HOI.out (g := g) rfl i _ hcur
                rwa [add_at, Nat.zero_add] at h
              have fz : ∀ (W : World) (xs' : List Value), W.ownsRow w1.heap.size 21 1 (.slice (some ⟨g, 0, none⟩) nt cv) nt xs' → ∀ j, W.frozen? ⟨g, j, none⟩ = false := fun W xs' h j => by
                rcases h.2 with ⟨h3, _⟩ | ⟨g', cap, cur, h3, _, hh', _⟩
                · cases h3
                · cases h3
                  simp [World.frozen?, hh']
              have FZ := Lib.hid fz
              have hi0 : (0 : Int) ≤ (i : Int) := by omega
              have hi1 : (i : Int) < (nt : Int) := by omega
              by_cases hia : i = xs
              · have hE : ((i : Int) == (xs : Int)) = true := by rw [beq_iff_eq]; omega
                have HTV := Lib.hid (show TT[i]? = some (upP r) by rw [hTi, hia, HAH.out trivial, if_neg (by decide)])
                clear hr hh hTi hcur hia fz
                go_wp2_with fail
                refine (chain_upper r _).mono ?_
                rintro e w7 ⟨rfl, hb7⟩
                have HO7 := Lib.hid (own_below HOI.out hb7)
                have HX7 := Lib.hid (Blk.below HXI.out hb7 HXI.out.lt)
                have HB7 := Lib.hid (HBI.out.trans (hb7.mono hzi))
                have f7 := FZ.out w7 _ HO7.out i
                have c7 : w7.cell? ⟨g, i, none⟩ = some (.int .i32 r) := (hb7.cell (p := ⟨g, i, none⟩) (own_lt HOI.out rfl).2).trans c0
                have hst := HO7.out.stored i (.int .i32 (upP r))
                rw [cells_set, mix_set HTT.out HTV.out] at hst
                have HO8 := Lib.hid hst.1
                have HX8 := Lib.hid (show Blk (w7.setCell ⟨g, i, none⟩ (.int .i32 (upP r))) wo.heap.size 69 #[.int .i64 xs, .int .i64 u, .bool true] from (Below.heap_setCell _ _ _ _ (by simp only; omega)).trans HX7.out)
                have HB8 := Lib.hid (HB7.out.setCell (p := ⟨g, i, none⟩) hg1 (.int .i32 (upP r)))
                clear hb7 hst c0
                go_wp2_with fail
                exact ⟨⟨i + 1, by omega, by omega, by go_num, HO8.out, HX8.out, HB8.out⟩, by simp [intOf]; omega⟩
              · have hE : ((i : Int) == (xs : Int)) = false := by rw [beq_eq_false_iff_ne]; omega
                have HTV := Lib.hid (show TT[i]? = some (lowP r) by
                  have h1 := HALL.out (i - 1) (by omega) (by omega)
                  rw [hTi, if_neg (show ¬ i = 0 by omega), h1, if_pos (show (some true).getD false = true from rfl)])
                clear hr hh hTi hcur hia fz
                go_wp2_with fail
                refine (chain_lower r _).mono ?_
                rintro e w7 ⟨rfl, hb7⟩
                have HO7 := Lib.hid (own_below HOI.out hb7)
                have HX7 := Lib.hid (Blk.below HXI.out hb7 HXI.out.lt)
                have HB7 := Lib.hid (HBI.out.trans (hb7.mono hzi))
                have f7 := FZ.out w7 _ HO7.out i
                have c7 : w7.cell? ⟨g, i, none⟩ = some (.int .i32 r) := (hb7.cell (p := ⟨g, i, none⟩) (own_lt HOI.out rfl).2).trans c0
                have hst := HO7.out.stored i (.int .i32 (lowP r))
                rw [cells_set, mix_set HTT.out HTV.out] at hst
                have HO8 := Lib.hid hst.1
                have HX8 := Lib.hid (show Blk (w7.setCell ⟨g, i, none⟩ (.int .i32 (lowP r))) wo.heap.size 69 #[.int .i64 xs, .int .i64 u, .bool true] from (Below.heap_setCell _ _ _ _ (by simp only; omega)).trans HX7.out)
                have HB8 := Lib.hid (HB7.out.setCell (p := ⟨g, i, none⟩) hg1 (.int .i32 (lowP r)))
                clear hb7 hst c0
                go_wp2_with fail
                exact ⟨⟨i + 1, by omega, by omega, by go_num, HO8.out, HX8.out, HB8.out⟩, by simp [intOf]; omega⟩
            · obtain rfl : i = u := by omega
              go_wp2_with fail
              exact ⟨⟨k + 1, i, some true, by omega, by go_num, hun, HGW2.out, HAH2.out, HOI.out, HBI.out⟩, by simp [intOf]; omega⟩
      · obtain rfl : k = m := by omega
        rw [List.drop_of_length_le (by rw [HWL.out]; exact Nat.le_refl _)] at hgw
        have ha : a = t.length := hgw
        have HOF := Lib.hid (show wr.ownsRow w1.heap.size 21 1 (.slice Av nt cv) nt (runeCells TT) by
          have h := ho
          rw [ha, List.drop_length, List.append_nil, List.take_of_length_le (by rw [HTT.out]; exact Nat.le_refl _)] at h
          exact h)
        have HRF := Lib.hid (RdX.of_own (X := fun b => w.heap.size ≤ b) HOF.out (fun b hb => Nat.le_trans HB1.out.size (own_lt HOF.out hb).1))
        clear hgw ha hah ho hb
        go_wp2_with fail
        go_ret2
        rw [HG.out]
        exact ⟨⟨Av, nt, cv, rfl, HRF.out⟩, HB1.out.trans (HB.out.mono HB1.out.size)⟩
  · have HG := Lib.hid (HTI.out.trans (if_pos hz))
    go_wp2_with fail
    go_ret2
    rw [HG.out]
    exact ⟨TiPost.nil _ _ _, HB1.out⟩

end Go.Proofs.Ytfmebbnccjaadaa
