/- The walks of scriptref8.Which and scriptref8.Check: whichP, checkP. -/
import Derived.Test.YtfmebbnccjaadaaRefMatch
import Derived.Test.YtfmebbnccjaadaaPlay
import Derived.BigRegion
namespace Go.Proofs.Ytfmebbnccjaadaa
open Go.RowKit

theorem upTo_drop {n j : Nat} (h : j < n) : (upTo n).drop j = (j : Int) :: (upTo n).drop (j + 1) := by
  refine drop_at ?_
  unfold upTo
  rw [List.getElem?_map, List.getElem?_range h]
  rfl
theorem upTo_past {n : Nat} : (upTo n).drop n = [] := List.drop_of_length_le (by simp [upTo])
def WhRel (w : World) (l : List RuleD) (t : List Int) (q n : Nat) (i : Value) (wr : World) : Prop :=
  ∃ j : Nat, j ≤ n ∧ i = .int .i64 j ∧ whichP l t q = whichIn l t q ((upTo n).drop j) ∧ Below w.heap.size w wr

set_option maxRecDepth 100000 in
set_option maxHeartbeats 1600000 in
theorem ref8_which (X : Nat → Prop) (l : List RuleD) (A At : Option Addr) (n c nt ct : Nat) (t : List Int) (q : Nat) (w : World) (hn : n ≤ maxLen) (hR : ∀ r ∈ l, RightRule r) (hl : ListX (RuleC w X) w X 7 A n l)
    (hnt : nt ≤ 100000) (hq : q ≤ nt) (ht : RdR w w.heap.size At nt t) :
    Calls Try.prog 40 #[.slice A n c, .slice At nt ct, .int .i64 q] w fun e w' => e = .returned (.int .i64 (whichP l t q)) ∧ Below w.heap.size w w' := by
  have HLEN := Lib.hid (show l.length = n from hl.len)
  have HL := Lib.hid hl
  have HT := Lib.hid ht
  have HRR := Lib.hid hR
  have H0 := Lib.hid (show whichP l t q = whichIn l t q ((upTo n).drop 0) by unfold whichP; rw [HLEN.out]; rfl)
  clear hl ht hR
  simp only [maxLen] at hn
  go_enter Try.func40, Try.ntmps40
  go_wp2_with fail
  go_loopw [10] (WhRel w l t q n) (fun i _ => n - (intOf i).toNat)
  case atStart => exact ⟨0, Nat.zero_le _, rfl, H0.out, Below.refl _ _⟩
  case round =>
    obtain ⟨k, hk, rfl, hgo, hb⟩ := hrel
    by_cases hlt : k < n
    · obtain ⟨r, hr⟩ : ∃ z, l[k]? = some z := ⟨_, List.getElem?_eq_getElem (by rw [HLEN.out]; exact hlt)⟩
      have hmem := List.mem_of_getElem? hr
      obtain ⟨b, off, A1, A2, A3, A4, n1, c1, n2, c2, n3, c3, n4, c4, rfl, _, hbb, ⟨d0, d1, d2, d3, d4, d5, d6⟩, s1, s2, s3, s4, hn4⟩ := rule_at (HL.out.keep (Keeps.any hb) (fun _ _ => RuleC.keep (Keeps.any hb))) hr
      rw [upTo_drop hlt, whichIn, show hereAt l t q (k : Int) = hereP r t q by unfold hereAt; rw [Int.toNat_natCast, hr]] at hgo
      have HGO := Lib.hid hgo
      have HB := Lib.hid hb
      have HM := Lib.hid (ref7_matches X r A1 A2 A3 A4 At n1 c1 n2 c2 n3 c3 n4 c4 nt ct t q wr (HRR.out r hmem) s1 s2 s3 hnt hq ((Rd.below HT.out hb).more hb.size))
      clear hgo hr hmem hb s1 s2 s3 s4 hn4
      go_wp2_with fail
      refine HM.out.mono ?_
      rintro e w9 ⟨rfl, hb9⟩
      have HB9 := Lib.hid (HB.out.trans (hb9.mono HB.out.size))
      clear hb9
      cases hh : hereP r t q
      · have HG := Lib.hid (HGO.out.trans (by rw [hh, if_neg (by decide)]))
        clear hh
        go_wp2_with fail
        exact ⟨⟨k + 1, by omega, by go_num, HG.out, HB9.out⟩, by simp [intOf]; omega⟩
      · have HG := Lib.hid (HGO.out.trans (by rw [hh, if_pos rfl]))
        clear hh
        go_wp2_with fail
        go_ret
        exact ⟨ret_int HG.out.symm, HB9.out⟩
    · obtain rfl : k = n := by omega
      rw [upTo_past, whichIn] at hgo
      have HG := Lib.hid hgo
      clear hgo
      go_wp2_with fail
      go_ret
      exact ⟨ret_int HG.out.symm, hb⟩

def checkP (l : List RuleD) (t : List Int) : Int × Int := if (rulesW l).1 ≠ 0 then rulesW l else (textP t, 0)
set_option maxRecDepth 100000 in
set_option maxHeartbeats 1600000 in
theorem ref8_check (X : Nat → Prop) (l : List RuleD) (A At : Option Addr) (n c nt ct : Nat) (t : List Int) (w : World) (hn : n ≤ maxLen) (hl : ListX (RuleC w X) w X 7 A n l) (hnt : nt ≤ maxLen) (ht : RdR w w.heap.size At nt t) :
    Calls Try.prog 12 #[.slice A n c, .slice At nt ct] w fun e w' => e = .returned (.agg #[.int .i64 (checkP l t).1, .int .i64 (checkP l t).2]) ∧ Below w.heap.size w w' := by
  have hb0 := (Below.refl w.heap.size w).alloc (Nat.le_refl _) (.cells #[.int .i64 0, .int .i64 0] 28)
  have HF0 := Lib.hid (Blk.new w 28 #[.int .i64 0, .int .i64 0])
  have HB0 := Lib.hid hb0
  have HT := Lib.hid ht
  obtain ⟨r1, r2, hR⟩ : ∃ r1 r2, rulesW l = (r1, r2) := ⟨_, _, rfl⟩
  have hW := ref8_wrong X l A n c _ hn (hl.keep (Keeps.any hb0) (fun _ _ => RuleC.keep (Keeps.any hb0)))
  rw [hR] at hW
  have HW := Lib.hid hW
  clear hb0 hW hl ht
  by_cases hz : r1 = 0
  · subst hz
    have HP := Lib.hid (show checkP l t = (textP t, 0) by unfold checkP; rw [hR]; rfl)
    clear hR
    go_enter Try.func12, Try.ntmps12
    go_wp2_with fail
    refine HW.out.mono ?_
    rintro e w1 ⟨rfl, hb1⟩
    have HF1 := Lib.hid ((Blk.below HF0.out hb1 HF0.out.lt).alloc (.cells #[.int .i64 0, .int .i64 r2] 28))
    have HB1 := Lib.hid ((HB0.out.trans (hb1.mono HB0.out.size)).alloc (by have := HB0.out.size; have := hb1.size; omega) (.cells #[.int .i64 0, .int .i64 r2] 28))
    have HX := Lib.hid (ref7_text At nt ct t _ hnt ((Rd.below HT.out HB1.out).more HB1.out.size))
    clear hb1 HW HF0 HB0
    go_wp2_with fail
    refine HX.out.mono ?_
    rintro e w2 ⟨rfl, hb2⟩
    have HB2 := Lib.hid (HB1.out.trans (hb2.mono HB1.out.size))
    have e0 : w2.cell? ⟨w.heap.size, 0, none⟩ = some (.int .i64 0) := (Blk.below HF1.out hb2 HF1.out.lt).cell 0
    have e1 : w2.cell? ⟨w.heap.size, 1, none⟩ = some (.int .i64 0) := (Blk.below HF1.out hb2 HF1.out.lt).cell 1
    have ef0 := (Blk.below HF1.out hb2 HF1.out.lt).frozen 0
    have ef1 := (Blk.below HF1.out hb2 HF1.out.lt).frozen 1
    clear hb2 HF1 HB1 HX
    go_wp2_with fail
    rw [HP.out]
    exact bodyPost_ret (v := .agg #[.int .i64 (textP t), .int .i64 0]) (by simp [results, Try.results12, go_sem, e0, e1]) rfl ⟨rfl, (HB2.out.setCell (by simp) _).setCell (by simp) _⟩
  · have HP := Lib.hid (show checkP l t = (r1, r2) by unfold checkP; rw [hR, if_pos hz])
    clear hR
    go_enter Try.func12, Try.ntmps12
    go_wp2_with fail
    refine HW.out.mono ?_
    rintro e w1 ⟨rfl, hb1⟩
    have HF1 := Lib.hid ((Blk.below HF0.out hb1 HF0.out.lt).alloc (.cells #[.int .i64 r1, .int .i64 r2] 28))
    have HB1 := Lib.hid ((HB0.out.trans (hb1.mono HB0.out.size)).alloc (by have := HB0.out.size; have := hb1.size; omega) (.cells #[.int .i64 r1, .int .i64 r2] 28))
    have e0 : (w1.alloc (.cells #[.int .i64 r1, .int .i64 r2] 28)).cell? ⟨w.heap.size, 0, none⟩ = some (.int .i64 0) := HF1.out.cell 0
    have e1 : (w1.alloc (.cells #[.int .i64 r1, .int .i64 r2] 28)).cell? ⟨w.heap.size, 1, none⟩ = some (.int .i64 0) := HF1.out.cell 1
    have ef0 := HF1.out.frozen 0
    have ef1 := HF1.out.frozen 1
    clear hb1 HW HF0 HB0
    go_wp2_with fail
    rw [HP.out]
    exact bodyPost_ret (v := .agg #[.int .i64 r1, .int .i64 r2]) (by simp [results, Try.results12, go_sem, e0, e1]) rfl ⟨rfl, (HB1.out.setCell (by simp) _).setCell (by simp) _⟩

end Go.Proofs.Ytfmebbnccjaadaa

/- The state of scriptref8.Run in memory: what is done as an owned row, what is to come as a slice of other blocks. -/
namespace Go.Proofs.Ytfmebbnccjaadaa
open Go.RowKit

def runRefP (l : List RuleD) (t : List Int) : OutD × (Int × Int) := if (checkP l t).1 ≠ 0 then (noOut, checkP l t) else okOut (runGo l (8 * t.length + 40) [] t 0 0)
theorem rdx_take {w : World} {X : Nat → Prop} {A : Option Addr} {n k : Nat} {xs : List Value} (h : RdX w X 1 A n xs) (hk : k ≤ n) : RdX w X 1 A k (xs.take k) := by
  refine ⟨by rw [List.length_take, h.1]; omega, fun h0 => ?_⟩
  obtain ⟨b, off, e, hx, hl, hc⟩ := h.2 (by omega)
  refine ⟨b, off, e, hx, hl, fun j u hu => hc j u ?_⟩
  rw [List.getElem?_take] at hu
  split at hu
  · exact hu
  · cases hu
theorem rdx_drop {w : World} {X : Nat → Prop} {b off n k : Nat} {xs : List Value} (h : RdX w X 1 (some ⟨b, off, none⟩) n xs) (hk : k ≤ n) : RdX w X 1 (some ⟨b, off + k, none⟩) (n - k) (xs.drop k) := by
  refine ⟨by rw [List.length_drop, h.1]; omega, fun h0 => ?_⟩
  obtain ⟨b', off', e, hx, hl, hc⟩ := h.2 (by omega)
  cases e
  refine ⟨b, off + k, rfl, hx, hl, fun j u hu => ?_⟩
  rw [List.getElem?_drop] at hu
  have := hc _ u hu
  rwa [← Nat.add_assoc] at this
theorem runeCells_drop (E : List Int) (k : Nat) : (runeCells E).drop k = runeCells (E.drop k) := by simp [runeCells]
theorem runeCells_take (E : List Int) (k : Nat) : (runeCells E).take k = runeCells (E.take k) := by simp [runeCells]
/-- A row that began as an empty block always has one. -/
theorem own_blk {w : World} {base sz n : Nat} {e : TypeId} {v : Value} {xs : List Value} (h : w.ownsRow base e sz v n xs) {g : Nat} (hg : v.ownBlock = some g) : ∃ c, v = .slice (some ⟨g, 0, none⟩) n c ∧ n ≤ c := by
  rcases h.2 with ⟨rfl, _⟩ | ⟨g2, cap, cur, rfl, _, _, hnc, _⟩
  · simp [Value.ownBlock] at hg
  · simp only [Value.ownBlock, Option.some.injEq] at hg
    subst hg
    exact ⟨cap, rfl, hnc⟩
theorem app_blk {w w' : World} {base sz n : Nat} {e : TypeId} {v v' : Value} {xs : List Value} (h : Appended base e sz v w n xs v' w') {g : Nat} (hg : v.ownBlock = some g) (hlo : base ≤ g) (hs : base ≤ w.heap.size) : ∃ g' c, v' = .slice (some ⟨g', 0, none⟩) n c ∧ n ≤ c ∧ base ≤ g' ∧ (g' = g ∨ g' = w.heap.size) := by
  rcases h.2.2 with h2 | h2
  · obtain ⟨c, e, hc⟩ := own_blk h.own (h2.trans hg)
    exact ⟨g, c, e, hc, hlo, .inl rfl⟩
  · obtain ⟨c, e, hc⟩ := own_blk h.own h2
    exact ⟨_, c, e, hc, hs, .inr rfl⟩

def RestX (lo M : Nat) (v : Value) (b : Nat) : Prop := lo ≤ b ∧ b ≠ M ∧ v.ownBlock ≠ some b
structure RunSt (w : World) (M : Nat) (s8 : Value) (done : List Int) (nd : Nat) (b9 o9 nz : Nat) (rest : List Int) (st pt : Int) (wr : World) : Prop where
  own : wr.ownsRow w.heap.size 21 1 s8 nd (runeCells done)
  rd : RdX wr (RestX w.heap.size M s8) 1 (some ⟨b9, o9, none⟩) nz (runeCells rest)
  out : Blk wr M 25 #[.slice none 0 0, .int .i64 st, .int .i64 pt]
  r4 : Blk wr w.heap.size 25 #[.slice none 0 0, .int .i64 0, .int .i64 0]
  r5 : Blk wr (w.heap.size + 1) 28 #[.int .i64 0, .int .i64 0]
  below : Below w.heap.size w wr
  dl : done.length = nd
  ml : w.heap.size + 1 < M
section
variable {w wr w' : World} {M nd b9 o9 nz : Nat} {s8 : Value} {done rest : List Int} {st pt : Int}
theorem RunSt.rl (h : RunSt w M s8 done nd b9 o9 nz rest st pt wr) : rest.length = nz := by have := h.rd.1; rw [runeCells_length] at this; omega
theorem RunSt.own_lt (h : RunSt w M s8 done nd b9 o9 nz rest st pt wr) : ∀ b, s8.ownBlock = some b → b < wr.heap.size := fun _ hb => (Go.Proofs.Ytfmebbnccjaadaa.own_lt h.own hb).2
theorem RunSt.go (h : RunSt w M s8 done nd b9 o9 nz rest st pt wr) (hb : Below wr.heap.size wr w') : RunSt w M s8 done nd b9 o9 nz rest st pt w' :=
  ⟨own_below h.own hb, h.rd.keep (Keeps.any hb), Blk.below h.out hb h.out.lt, Blk.below h.r4 hb h.r4.lt, Blk.below h.r5 hb h.r5.lt, h.below.trans (hb.mono h.below.size), h.dl, h.ml⟩
theorem RunSt.set (h : RunSt w M s8 done nd b9 o9 nz rest st pt wr) (i : Nat) (u : Value) {st' pt' : Int} (he : (#[.slice none 0 0, .int .i64 st, .int .i64 pt] : Array Value).setIfInBounds i u = #[.slice none 0 0, .int .i64 st', .int .i64 pt']) :
    RunSt w M s8 done nd b9 o9 nz rest st' pt' (wr.setCell ⟨M, i, none⟩ u) :=
  ⟨own_setCell_ne h.own h.out (by decide), h.rd.keep (Keeps.setCell u (fun b hb => hb.2.1) (fun _ hb _ => hb)), by rw [← he]; exact h.out.put i u,
    (by have := h.ml; exact (Below.heap_setCell _ _ _ _ (by simp only; omega)).trans h.r4), (by have := h.ml; exact (Below.heap_setCell _ _ _ _ (by simp only; omega)).trans h.r5), h.below.setCell (by have := h.ml; simp only; omega) u, h.dl, h.ml⟩
theorem RunSt.push (h : RunSt w M s8 done nd b9 o9 nz rest st pt wr) {E : List Int} {m : Nat} {v : Value} (hE : E.length = m) (happ : Appended w.heap.size 21 1 s8 wr (nd + m) (runeCells done ++ runeCells E) v w') :
    RunSt w M v (done ++ E) (nd + m) b9 o9 nz rest st pt w' :=
  ⟨by rw [runeCells_append]; exact happ.own,
   h.rd.keep (Keeps.app happ (fun b hb => hb.2.2) (fun b hb hl => ⟨hb.1, hb.2.1, by
     rcases happ.2.2 with e | e
     · rw [e]; exact hb.2.2
     · rw [e]; intro e2; injection e2 with e2; omega⟩)),
   blk_app h.out h.own (by decide) happ, blk_app h.r4 h.own (by decide) happ, blk_app h.r5 h.own (by decide) happ, h.below.trans (happ.below h.below.size h.own), by rw [List.length_append, h.dl, hE], h.ml⟩
theorem RunSt.other (h : RunSt w M s8 done nd b9 o9 nz rest st pt wr) {b o n : Nat} {E : List Int} (hr : RdX wr (RestX w.heap.size M s8) 1 (some ⟨b, o, none⟩) n (runeCells E)) : RunSt w M s8 done nd b o n E st pt wr :=
  ⟨h.own, hr, h.out, h.r4, h.r5, h.below, h.dl, h.ml⟩
theorem RunSt.skip (h : RunSt w M s8 done nd b9 o9 nz rest st pt wr) {k : Nat} (hk : k ≤ nz) : RunSt w M s8 done nd b9 (o9 + k) (nz - k) (rest.drop k) st pt wr :=
  h.other (by have := rdx_drop h.rd hk; rwa [runeCells_drop] at this)
/-- What a slice expression leaves: where no room is left the address stays. -/
theorem RunSt.skip' (h : RunSt w M s8 done nd b9 o9 nz rest st pt wr) {k c : Nat} (hk : k ≤ nz) (hc : nz ≤ c) : RunSt w M s8 done nd b9 (if c = k then o9 else o9 + k) (nz - k) (rest.drop k) st pt wr := by
  by_cases e : c = k
  · rw [if_pos e]
    have h0 : nz - k = 0 := by omega
    have hr := h.rl
    refine h.other ⟨?_, fun h1 => by omega⟩
    rw [runeCells_length, List.length_drop]
    omega
  · rw [if_neg e]
    exact h.skip hk
end

end Go.Proofs.Ytfmebbnccjaadaa

/- The walk of scriptref8.Run: it tells runRefP. -/
namespace Go.Proofs.Ytfmebbnccjaadaa
open Go.RowKit

def RunRel (w : World) (l : List RuleD) (t : List Int) (lim M : Nat) (s7 s8 s9 : Value) (wr : World) : Prop :=
  ∃ (done rest : List Int) (left st pt nd b9 o9 nz c9 : Nat), s7 = .int .i64 left ∧ s9 = .slice (some ⟨b9, o9, none⟩) nz c9 ∧ nz ≤ c9 ∧ RunSt w M s8 done nd b9 o9 nz rest st pt wr ∧ nd + nz ≤ 4000 ∧ left + st = lim ∧ pt ≤ st ∧ runGo l lim [] t 0 0 = runGo l left done rest st pt
theorem check_ok {l : List RuleD} {t : List Int} (h : (checkP l t).1 = 0) : (rulesW l).1 = 0 ∧ textP t = 0 := by
  unfold checkP at h
  by_cases h2 : (rulesW l).1 ≠ 0
  · rw [if_pos h2] at h; exact absurd h h2
  · rw [if_neg h2] at h
    exact ⟨by omega, h⟩
theorem text_ok {t : List Int} (h : textP t = 0) : t.length ≤ 4000 ∧ Runes t := by
  unfold textP at h
  by_cases h4 : 4000 < t.length
  · rw [if_pos h4] at h; cases h
  · rw [if_neg h4] at h
    refine ⟨by omega, runes_of ?_⟩
    cases hb : badRune t
    · rfl
    · rw [hb] at h; cases h

/-- The same, and the text's slice has room for what it holds. -/
def PlayPost2 (lo : Nat) (w' : World) (o : OutD × (Int × Int)) (e : Ending) : Prop :=
  ∃ (A : Option Addr) (n c : Nat), e = .returned (.tuple #[.agg #[.slice A n c, .int .i64 o.1.steps, .int .i64 o.1.put], .agg #[.int .i64 o.2.1, .int .i64 o.2.2]]) ∧ RdX w' (fun b => lo ≤ b) 1 A n (runeCells o.1.text) ∧ n ≤ c
set_option maxRecDepth 100000 in
set_option maxHeartbeats 6400000 in
theorem ref8_run2 (X : Nat → Prop) (l : List RuleD) (Ar : Option Addr) (nr cr : Nat) (t : List Int) (At : Option Addr) (nt ct : Nat) (w : World) (hnr : nr ≤ maxLen) (hl : ListX (RuleC w X) w X 7 Ar nr l) (hnt : nt ≤ maxLen) (ht : RdR w w.heap.size At nt t) :
    Calls Try.prog 11 #[.slice Ar nr cr, .slice At nt ct] w fun e w' => PlayPost2 w.heap.size w' (runRefP l t) e ∧ Below w.heap.size w w' := by
  obtain ⟨i0, hi, z0, z1, z2⟩ := info_parts Try.info21
  have htl := ht.len
  have hb0 := ((Below.refl w.heap.size w).alloc (Nat.le_refl _) (.cells #[.slice none 0 0, .int .i64 0, .int .i64 0] 25)).alloc (by simp) (.cells #[.int .i64 0, .int .i64 0] 28)
  have HX0 := Lib.hid (Blk.alloc (Blk.new w 25 #[.slice none 0 0, .int .i64 0, .int .i64 0]) (.cells #[.int .i64 0, .int .i64 0] 28))
  have HY0 := Lib.hid (show Blk ((w.alloc (.cells #[.slice none 0 0, .int .i64 0, .int .i64 0] 25)).alloc (.cells #[.int .i64 0, .int .i64 0] 28)) (w.heap.size + 1) 28 #[.int .i64 0, .int .i64 0] by
    have := Blk.new (w.alloc (.cells #[.slice none 0 0, .int .i64 0, .int .i64 0] 25)) 28 #[.int .i64 0, .int .i64 0]
    simpa using this)
  have HB0 := Lib.hid hb0
  have HL := Lib.hid (fun (W : World) (hb : Below w.heap.size w W) => show ListX (RuleC W X) W X 7 Ar nr l from hl.keep (Keeps.any hb) (fun _ _ => RuleC.keep (Keeps.any hb)))
  have HTX := Lib.hid (fun (W : World) (hb : Below w.heap.size w W) => show RdR W W.heap.size At nt t from (Rd.below ht hb).more hb.size)
  have HLEN := Lib.hid (show l.length = nr from hl.len)
  clear hb0 hl ht
  generalize hW0 : (w.alloc (.cells #[.slice none 0 0, .int .i64 0, .int .i64 0] 25)).alloc (.cells #[.int .i64 0, .int .i64 0] 28) = W0 at *
  have HC := Lib.hid (ref8_check X l Ar At nr cr nt ct t W0 hnr (HL.out W0 HB0.out) hnt (HTX.out W0 HB0.out))
  go_enter Try.func11, Try.ntmps11
  go_wp2_with fail
  clear hW0
  refine HC.out.mono ?_
  rintro e w1 ⟨rfl, hb1⟩
  have HX1 := Lib.hid (Blk.below HX0.out hb1 HX0.out.lt)
  have HY1 := Lib.hid (Blk.below HY0.out hb1 HY0.out.lt)
  have HB1 := Lib.hid (HB0.out.trans (hb1.mono HB0.out.size))
  clear hb1 HC HX0 HY0 HB0
  obtain ⟨r1, r2, hR⟩ : ∃ r1 r2, checkP l t = (r1, r2) := ⟨_, _, rfl⟩
  have HOK := Lib.hid (@check_ok l t)
  rw [hR] at HOK ⊢
  have HX2 := Lib.hid (HX1.out.alloc (.cells #[.int .i64 r1, .int .i64 r2] 28))
  have HY2 := Lib.hid (HY1.out.alloc (.cells #[.int .i64 r1, .int .i64 r2] 28))
  have HQ2 := Lib.hid (Blk.new w1 28 #[.int .i64 r1, .int .i64 r2])
  have HB2 := Lib.hid (HB1.out.alloc HB1.out.size (.cells #[.int .i64 r1, .int .i64 r2] 28))
  have hx1 := HX1.out.lt
  have hy1 := HY1.out.lt
  by_cases hz : r1 = 0
  · subst hz
    obtain ⟨hr0, ht0⟩ := HOK.out rfl
    have HRA := Lib.hid (right_all hr0)
    have HRT := Lib.hid (text_ok ht0)
    have hl200 : l.length ≤ 200 := (right_rules hr0).size
    have hnt4 : nt ≤ 4000 := by rw [← htl]; exact HRT.out.1
    obtain ⟨lim, hlim⟩ : ∃ lim : Nat, lim = 8 * nt + 40 := ⟨_, rfl⟩
    have HP := Lib.hid (show runRefP l t = okOut (runGo l lim [] t 0 0) by unfold runRefP; rw [hR, if_neg (fun h => h rfl), hlim, htl])
    have hlim1 : lim ≤ 32040 := by omega
    have hlim2 : (8 : Int) * (nt : Int) + 40 = (lim : Int) := by omega
    clear hR hr0 ht0 HOK HX1 HY1 HB1 HQ2 hlim
    go_upto_region 6 with fail
    generalize hW2 : w1.alloc (.cells #[.int .i64 0, .int .i64 r2] 28) = W2 at *
    have hw2 : w1.heap.size < W2.heap.size := by rw [← hW2]; simp
    clear hW2
    have hbe := HB2.out.alloc HB2.out.size (.cells #[] 21)
    have HOE := Lib.hid (own_empty W2 21 1 W2.heap.size W2.heap.size rfl (Nat.le_refl _))
    have HTE := Lib.hid (HTX.out _ hbe)
    clear hbe
    go_wp2_with (at_builtin; refine wpList_append_rd _ rfl (.tmp 25) (.tmp 26) 23 rfl W2.heap.size 21 i0 _ 1 4 Try.underlying23 hi z0 z1 z2 rfl (by decide) _ _ _ rfl HOE.out _ At nt ct (runeCells t) rfl HTE.out (runeCells_one _) (by simp only [maxLen]; omega) (by omega) (by simp) ?_)
    intro v9 w4 happ
    obtain ⟨b9, c9, rfl, hc9, hb9, _⟩ := app_blk happ (g := W2.heap.size) rfl (Nat.le_refl _) (by simp)
    have hbw4 : Below W2.heap.size W2 w4 := ((Below.refl _ _).alloc (Nat.le_refl _) _).trans (happ.below (by simp) HOE.out)
    have ho9 : w4.ownsRow W2.heap.size 21 1 (.slice (some ⟨b9, 0, none⟩) nt c9) nt (runeCells t) := by have := happ.own; simpa using this
    have hc9' : nt ≤ c9 := by omega
    have hba := hbw4.alloc hbw4.size (.cells #[.slice none 0 0, .int .i64 0, .int .i64 0] 25)
    have HST := Lib.hid (show RunSt w w4.heap.size (.slice none 0 0) [] 0 b9 0 nt t ((0 : Nat) : Int) ((0 : Nat) : Int) (w4.alloc (.cells #[.slice none 0 0, .int .i64 0, .int .i64 0] 25)) from
      ⟨World.ownsRow_nil _ _ _ _, (RdX.of_own (X := fun b => W2.heap.size ≤ b) ho9 (fun b hb => (own_lt ho9 hb).1)).keep (Keeps.alloc _ (fun b hb hlt => ⟨by have := HB2.out.size; omega, by omega, by simp [Value.ownBlock]⟩)),
       Blk.new _ _ _, Blk.below HX2.out hba (by omega), Blk.below HY2.out hba (by omega), HB2.out.trans (hba.mono HB2.out.size), rfl, by have := hbw4.size; omega⟩)
    clear happ hbw4 ho9 hba hc9 HOE HTE
    go_wp2_with fail
    generalize hM : w4.heap.size = M at *
    go_loopw [7, 8, 9] (RunRel w l t lim M) (fun s7 _ _ _ => (intOf s7).toNat)
    case atStart => exact ⟨[], t, lim, 0, 0, 0, b9, 0, nt, c9, rfl, rfl, hc9', HST.out, by omega, rfl, Nat.le_refl _, rfl⟩
    case round =>
      clear HST hM hc9' hb9 HX2 HY2 HB2 hx1 hy1 hw2
      obtain ⟨done, rest, left, st, pt, nd, b9, o9, nz, c9, rfl, rfl, hc9, hst, hs4, hls, hps, hgo⟩ := hrel
      obtain ⟨Av, cv, rfl, hcv⟩ := own_form hst.own
      have hst' := hst
      have HS := Lib.hid hst
      have hbl := hst.below
      have hzw := hbl.size
      have hml := hst.ml
      have hMl := hst.out.lt
      have HDL := Lib.hid hst.dl
      have HRL := Lib.hid hst.rl
      have HGO := Lib.hid hgo
      clear hgo hbl hst'
      by_cases hz0 : nz = 0
      · subst hz0
        have HPF := Lib.hid (show runRefP l t = (⟨done, st, pt⟩, (0, 0)) by rw [HP.out, HGO.out, show rest = [] from List.eq_nil_of_length_eq_zero HRL.out, runGo_nil]; rfl)
        have hM := hst.out
        have hX := hst.r4
        have hY := hst.r5
        have hB := hst.below
        have hown := hst.own
        have u4 : wr.cell? ⟨M, 0, none⟩ = some (.slice none 0 0) := hM.cell 0
        have g4 := hM.frozen 0
        have hM9 := hM.put 0 (.slice Av nd cv)
        have hX9 := (Below.heap_setCell wr ⟨M, 0, none⟩ (.slice Av nd cv) w.heap.size (by simp only; omega)).trans hX
        have hY9 := (Below.heap_setCell wr ⟨M, 0, none⟩ (.slice Av nd cv) (w.heap.size + 1) (by simp only; omega)).trans hY
        have hB9 := hB.setCell (p := ⟨M, 0, none⟩) (by simp only; omega) (.slice Av nd cv)
        have ho9 := own_setCell_ne (i := 0) (u := .slice Av nd cv) hown hM (by decide)
        have HO9 := Lib.hid ho9
        have hX9 : Blk (wr.setCell ⟨M, 0, none⟩ (.slice Av nd cv)) w.heap.size 25 #[.slice none 0 0, .int .i64 0, .int .i64 0] := hX9
        have hY9 : Blk (wr.setCell ⟨M, 0, none⟩ (.slice Av nd cv)) (w.heap.size + 1) 28 #[.int .i64 0, .int .i64 0] := hY9
        clear hst hM hX hY hB hown ho9
        go_upto_region 25 with fail
        generalize hW9 : wr.setCell ⟨M, 0, none⟩ (.slice Av nd cv) = W9 at *
        have o4 : W9.cell? ⟨M, 0, none⟩ = some (.slice Av nd cv) := hM9.cell 0
        have o5 : W9.cell? ⟨M, 1, none⟩ = some (.int .i64 st) := hM9.cell 1
        have o6 : W9.cell? ⟨M, 2, none⟩ = some (.int .i64 pt) := hM9.cell 2
        have x0 := hX9.cell 0
        have x1 := hX9.cell 1
        have x2 := hX9.cell 2
        have y0 := hY9.cell 0
        have y1 := hY9.cell 1
        have p0 := hX9.frozen 0
        have p1 := hX9.frozen 1
        have p2 := hX9.frozen 2
        have p3 := hY9.frozen 0
        have p4 := hY9.frozen 1
        have hbf := ((((hB9.setCell (p := ⟨w.heap.size, 0, none⟩) (by simp) (.slice Av nd cv)).setCell (p := ⟨w.heap.size, 1, none⟩) (by simp) (.int .i64 st)).setCell (p := ⟨w.heap.size, 2, none⟩) (by simp) (.int .i64 pt)).setCell (p := ⟨w.heap.size + 1, 0, none⟩) (by simp) (.int .i64 0)).setCell (p := ⟨w.heap.size + 1, 1, none⟩) (by simp) (.int .i64 0)
        have HBF := Lib.hid hbf
        have q1 := own_setCell_ne (i := 0) (u := .slice Av nd cv) HO9.out hX9 (by decide)
        have q2 := own_setCell_ne (i := 1) (u := .int .i64 st) q1 (hX9.put 0 _) (by decide)
        have q3 := own_setCell_ne (i := 2) (u := .int .i64 pt) q2 ((hX9.put 0 _).put 1 _) (by decide)
        have hY1 := ((hY9.other hX9 (by decide) 0 (.slice Av nd cv)).other (hX9.put 0 (.slice Av nd cv)) (by decide) 1 (.int .i64 st)).other ((hX9.put 0 (.slice Av nd cv)).put 1 (.int .i64 st)) (by decide) 2 (.int .i64 pt)
        have q4 := own_setCell_ne (i := 0) (u := .int .i64 0) q3 hY1 (by decide)
        have q5 := own_setCell_ne (i := 1) (u := .int .i64 0) q4 (hY1.put 0 _) (by decide)
        have HRF := Lib.hid (RdX.of_own (X := fun b => w.heap.size ≤ b) q5 (fun b hb => (own_lt q5 hb).1))
        clear hX9 hY9 hM9 hB9 hbf u4 g4 hW9 q1 q2 q3 q4 q5 hY1
        go_wp2_with fail
        rw [HPF.out]
        exact bodyPost_ret (v := .tuple #[.agg #[.slice Av nd cv, .int .i64 st, .int .i64 pt], .agg #[.int .i64 0, .int .i64 0]]) (by simp [results, Try.results11, go_sem, x0, x1, x2, y0, y1]) rfl ⟨⟨Av, nd, cv, rfl, HRF.out, hcv⟩, HBF.out⟩
      · obtain ⟨z, Z', hzz⟩ : ∃ z Z', rest = z :: Z' := by
          cases hre : rest with
          | nil => exfalso; have := HRL.out; rw [hre] at this; simp at this; omega
          | cons z Z' => exact ⟨z, Z', rfl⟩
        have HZZ := Lib.hid hzz
        clear hzz
        rcases Nat.eq_zero_or_pos left with hl0 | hl0
        · subst hl0
          have HPF := Lib.hid (show runRefP l t = (noOut, (9, 0)) by rw [HP.out, HGO.out, HZZ.out]; rfl)
          have hX := hst.r4
          have hY := hst.r5
          have hB := hst.below
          clear hst
          have x0 := hX.cell 0
          have x1 := hX.cell 1
          have x2 := hX.cell 2
          have y0 := hY.cell 0
          have y1 := hY.cell 1
          have p0 := hX.frozen 0
          have p1 := hX.frozen 1
          have p2 := hX.frozen 2
          have p3 := hY.frozen 0
          have p4 := hY.frozen 1
          have hbf := ((((hB.setCell (p := ⟨w.heap.size, 0, none⟩) (by simp) (.slice none 0 0)).setCell (p := ⟨w.heap.size, 1, none⟩) (by simp) (.int .i64 0)).setCell (p := ⟨w.heap.size, 2, none⟩) (by simp) (.int .i64 0)).setCell (p := ⟨w.heap.size + 1, 0, none⟩) (by simp) (.int .i64 9)).setCell (p := ⟨w.heap.size + 1, 1, none⟩) (by simp) (.int .i64 0)
          have HBF := Lib.hid hbf
          clear hX hY hB hbf
          go_wp2_with fail
          rw [HPF.out]
          exact bodyPost_ret (v := .tuple #[.agg #[.slice none 0 0, .int .i64 0, .int .i64 0], .agg #[.int .i64 9, .int .i64 0]]) (by simp [results, Try.results11, go_sem, x0, x1, x2, y0, y1]) rfl ⟨⟨none, 0, 0, rfl, ⟨rfl, fun h => absurd h (Nat.lt_irrefl 0)⟩, Nat.le_refl _⟩, HBF.out⟩
        · obtain ⟨L, rfl⟩ : ∃ L, left = L + 1 := ⟨left - 1, by omega⟩
          have u1 : wr.cell? ⟨M, 1, none⟩ = some (.int .i64 st) := hst.out.cell 1
          have g1 := hst.out.frozen 1
          have HS1 := Lib.hid (hst.set 1 (.int .i64 ((st : Int) + 1)) rfl)
          have hzr : wr.heap.size = (wr.setCell ⟨M, 1, none⟩ (.int .i64 ((st : Int) + 1))).heap.size := by simp
          clear hst
          go_upto_region 13 with fail
          generalize wr.setCell ⟨M, 1, none⟩ (.int .i64 ((st : Int) + 1)) = W1 at *
          clear u1 g1
          have HOE := Lib.hid (own_empty W1 21 1 W1.heap.size W1.heap.size rfl (Nat.le_refl _))
          have hba := (Below.refl W1.heap.size W1).alloc (Nat.le_refl _) (.cells #[] 21)
          have HBA := Lib.hid hba
          have HR1 := Lib.hid (Rd.of_own (HS1.out.go hba).own)
          clear hba
          go_wp2_with (at_builtin; refine wpList_append_rd _ rfl (.tmp 42) (.tmp 43) 23 rfl W1.heap.size 21 i0 _ 1 4 Try.underlying23 hi z0 z1 z2 rfl (by decide) _ _ _ rfl HOE.out _ Av nd cv (runeCells done) rfl HR1.out (runeCells_one _) (by simp only [maxLen]; omega) (by omega) (by simp) ?_)
          intro v1 w3 happ
          have HB3 := Lib.hid (HBA.out.trans (happ.below (by simp) HOE.out))
          have HO3 := Lib.hid happ.own
          have HR2 := Lib.hid (HS1.out.go HB3.out).rd.of
          clear happ HOE HR1 HBA
          go_wp2_with (at_builtin; refine wpList_append_rd _ rfl (.tmp 44) (.tmp 45) 23 rfl W1.heap.size 21 i0 _ 1 4 Try.underlying23 hi z0 z1 z2 rfl (by decide) _ _ _ rfl HO3.out _ (some ⟨b9, o9, none⟩) nz c9 (runeCells rest) rfl HR2.out (runeCells_one _) (by simp only [maxLen]; omega) (by omega) HB3.out.size ?_)
          intro v2 w4 happ
          have HB4 := Lib.hid (HB3.out.trans (happ.below HB3.out.size HO3.out))
          have ho4 : w4.ownsRow W1.heap.size 21 1 v2 (nd + nz) (runeCells (done ++ rest)) := by have := happ.own; rw [runeCells_append]; simpa using this
          obtain ⟨A4, c4, rfl, _⟩ := own_form ho4
          have HS4 := Lib.hid (HS1.out.go HB4.out)
          have HWH := Lib.hid (ref8_which X l Ar A4 nr cr (nd + nz) c4 (done ++ rest) nd w4 hnr HRA.out (HL.out w4 HS4.out.below) (by omega) (by omega) (Rd.of_own ho4))
          clear happ ho4 HO3 HR2 HB3 HS HS1 hzr
          go_wp2_with fail
          refine HWH.out.mono ?_
          rintro e w5 ⟨rfl, hb5⟩
          have HS5 := Lib.hid (HS4.out.go hb5)
          clear hb5 HS4 HWH HB4
          have hwr : whichP l (done ++ rest) nd = whichP l (done ++ z :: Z') done.length := by rw [HZZ.out, HDL.out]
          rw [hwr]
          clear hwr
          rcases whichP_range l (done ++ z :: Z') done.length with hwh | ⟨k, r, hwh, hk, hhere⟩
          · have HGN := Lib.hid (show runGo l lim [] t 0 0 = runGo l L (done ++ [z]) Z' (st + 1) pt by rw [HGO.out, HZZ.out, runGo_none hwh])
            obtain ⟨b', o', eA, _, hbb, hcc⟩ := HS5.out.rd.2 (by omega)
            cases eA
            have hd0 : w5.cell? ⟨b9, o9, none⟩ = some (.int .i32 z) := by
              have := hcc 0 (.int .i32 z) (by rw [HZZ.out]; rfl)
              simpa using this
            rw [hwh]
            have HS6 := Lib.hid (HS5.out.go ((Below.refl _ _).alloc (Nat.le_refl _) (.cells #[.int .i32 z] 21)))
            have HN := Lib.hid (Rd.new w5 21 1 1 [.int .i32 z] rfl)
            have hz5 := HS5.out.below.size
            clear hwh hcc
            go_wp2_with (at_builtin; refine wpList_append_rd _ rfl (.tmp 52) (.tmp 56) 23 rfl w.heap.size 21 i0 _ 1 4 Try.underlying23 hi z0 z1 z2 rfl (by decide) _ nd _ rfl HS6.out.own _ (some ⟨w5.heap.size, 0, none⟩) 1 1 (runeCells [z]) rfl HN.out (runeCells_one _) (by simp only [maxLen]; omega) (by omega) HS6.out.below.size ?_)
            intro v8 w7 happ
            have HS7 := Lib.hid ((HS6.out.push (E := [z]) rfl happ).skip' (k := 1) (c := c9) (by omega) hc9)
            have HZD := Lib.hid (show rest.drop 1 = Z' by rw [HZZ.out]; rfl)
            clear happ HS6 HS5 HN
            go_wp2_with fail
            refine ⟨⟨done ++ [z], Z', L, st + 1, pt, nd + 1, b9, (if c9 = 1 then o9 else o9 + 1), nz - 1, c9 - 1, by go_num, ?_, by omega, ?_, by omega, by omega, by omega, HGN.out⟩, by simp [intOf]⟩
            · split <;> rfl
            · have := HS7.out
              rw [HZD.out] at this
              exact this
          · have hrr := HRA.out r (List.mem_of_getElem? hk)
            have ht20 := hrr.tgt.1
            have hcur := hrr.cur
            have hs20 := (hrr.sets r.source (by simp [sidesOf])).1
            have hfit := here_fits hhere
            obtain ⟨cu, hcu⟩ : ∃ cu : Nat, r.cursor = (cu : Int) := ⟨r.cursor.toNat, by omega⟩
            have hcu2 : cu ≤ r.target.length := by omega
            obtain ⟨tn, htn⟩ : ∃ tn, r.target.length = tn := ⟨_, rfl⟩
            obtain ⟨sn, hsn⟩ : ∃ sn, r.source.length = sn := ⟨_, rfl⟩
            have hsz : sn ≤ nz := by have := HRL.out; rw [HZZ.out] at this; omega
            rw [htn] at ht20 hcu2
            rw [hsn] at hs20
            have HGR := Lib.hid (fun (hm : ¬ 4000 < done.length + (r.target ++ (z :: Z').drop r.source.length).length) => show runGo l lim [] t 0 0 = runGo l L (done ++ (r.target ++ rest.drop sn).take cu) ((r.target ++ rest.drop sn).drop cu) (st + 1) (pt + 1) by
              rw [HGO.out, HZZ.out, runGo_rule hwh hk hm, hcu, Int.toNat_natCast, hsn])
            have HGM := Lib.hid (fun (hm : 4000 < done.length + (r.target ++ (z :: Z').drop r.source.length).length) => show runGo l lim [] t 0 0 = (noOut, 4) by rw [HGO.out, HZZ.out, runGo_much hwh hk hm])
            have HLL := Lib.hid (show done.length + (r.target ++ (z :: Z').drop r.source.length).length = nd + (tn + (nz - sn)) by
              rw [List.length_append, List.length_drop, HDL.out, htn, hsn, ← HZZ.out, HRL.out])
            have HTN := Lib.hid htn
            have u2 : w5.cell? ⟨M, 2, none⟩ = some (.int .i64 pt) := HS5.out.out.cell 2
            have g2 := HS5.out.out.frozen 2
            have HS6 := Lib.hid (HS5.out.set 2 (.int .i64 ((pt : Int) + 1)) rfl)
            rw [hwh]
            clear hwh hhere hrr hcur hfit
            go_upto_region 18 with fail
            generalize w5.setCell ⟨M, 2, none⟩ (.int .i64 ((pt : Int) + 1)) = W6 at *
            clear u2 g2 HS5
            have hb6 := HS6.out.below
            obtain ⟨b, off, A1, A2, A3, A5, n1, c1, n2, c2, n3, c3, n4, c4', rfl, _, hbb, ⟨d0, d1, d2, d3, d4, d5, d6⟩, q1, q2, q3, q4, hn4⟩ := rule_at (HL.out W6 hb6) hk
            have hknr : k < nr := by have := (List.getElem?_eq_some_iff.1 hk).1; have := HLEN.out; omega
            have hq2 := q2.list.len
            obtain rfl : n2 = sn := by omega
            have hq4 := q4.1
            rw [runeCells_length] at hq4
            obtain rfl : n4 = tn := by omega
            rw [hcu] at d6
            have HTG := Lib.hid q4
            generalize hcs : (#[.bool r.start, .bool r.fin, .slice A1 n1 c1, .slice A2 n2 c2, .slice A3 n3 c3, .slice A5 n4 c4', .int .i64 (cu : Int)] : Array Value) = cs
            have HCS := Lib.hid (show cs[3]? = some (.slice A2 n2 c2) ∧ cs[5]? = some (.slice A5 n4 c4') ∧ cs[6]? = some (.int .i64 cu) by subst hcs; exact ⟨rfl, rfl, rfl⟩)
            have HRB := Lib.hid (show Blk (W6.alloc (.cells cs 79)) W6.heap.size 79 cs from Blk.new _ _ _)
            have HS7 := Lib.hid (HS6.out.go ((Below.refl _ _).alloc (Nat.le_refl _) (.cells cs 79)))
            have HTG7 := Lib.hid (RdX.of (HTG.out.keep (Keeps.any ((Below.refl W6.heap.size W6).alloc (Nat.le_refl _) (.cells cs 79)))))
            have HCSE := Lib.hid hcs
            clear q1 q2 q3 q4 hb6 hq2 hq4 hk HTG hcs
            go_upto_region 19 with fail
            rw [HCSE.out]
            generalize W6.alloc (.cells cs 79) = W7 at *
            clear HCSE d0 d1 d2 d3 d4 d5 d6
            have f3 : W7.cell? ⟨W6.heap.size, 3, none⟩ = some (.slice A2 n2 c2) := (HRB.out.cell 3).trans HCS.out.1
            have f5 : W7.cell? ⟨W6.heap.size, 5, none⟩ = some (.slice A5 n4 c4') := (HRB.out.cell 5).trans HCS.out.2.1
            have HOE := Lib.hid (show (W7.alloc (.cells #[] 21)).drew.ownsRow W7.heap.size 21 1 (.slice (some ⟨W7.heap.size, 0, none⟩) 0 0) 0 [] from own_empty W7 21 1 W7.heap.size W7.heap.size rfl (Nat.le_refl _))
            have hba := below_drew1 ((Below.refl W7.heap.size W7).alloc (Nat.le_refl _) (.cells #[] 21))
            have HBA := Lib.hid hba
            have HTG8 := Lib.hid ((Rd.below HTG7.out hba).more hba.size)
            clear hba
            refine wp_region_till (S := (fun w1 => w1.cell? ⟨W6.heap.size, 3, none⟩ = some (.slice A2 n2 c2) ∧ w1.cell? ⟨W6.heap.size, 5, none⟩ = some (.slice A5 n4 c4'))) [2, 6] (by kernel_rfl) ⟨f3, f5⟩ (fun hHeld => ?_)
            refine wpTill_pure (i := 1) (oi := ⟨some 69, _, _, _, _, _⟩) (v := ?_) rfl (by kernel_rfl) (by kernel_rfl) (by kernel_rfl) (fun _ _ _ h => h) (Or.inl ⟨by rfl, ?_⟩) ?_
            rotate_left 1
            · intro wq _
              go_simp
              try with_reducible rfl
            try simp only [Act.put, List.setIfInBounds_toArray, List.set_cons_zero, List.set_cons_succ]
            refine wpTill_take (i := 2) (oi := ⟨some 70, _, _, _, _, _⟩) (v := ?_) rfl (by kernel_rfl) (by kernel_rfl) (by kernel_rfl) (by kernel_rfl) (by kernel_rfl) (fun _ _ _ h => h) (Or.inl ⟨by rfl, ?_⟩) (by assumption) ?_
            rotate_left 1
            · intro wq hSw
              (try dsimp only at hSw)
              go_simp
              try with_reducible rfl
            try simp only [Act.put, List.setIfInBounds_toArray, List.set_cons_zero, List.set_cons_succ]
            refine wpTill_pure (i := 4) (oi := ⟨some 72, _, _, _, _, _⟩) (v := ?_) rfl (by kernel_rfl) (by kernel_rfl) (by kernel_rfl) (fun _ _ _ h => h) (Or.inl ⟨by rfl, ?_⟩) ?_
            rotate_left 1
            · intro wq _
              go_simp
              try with_reducible rfl
            try simp only [Act.put, List.setIfInBounds_toArray, List.set_cons_zero, List.set_cons_succ]
            refine wpTill_pure (i := 5) (oi := ⟨some 73, _, _, _, _, _⟩) (v := ?_) rfl (by kernel_rfl) (by kernel_rfl) (by kernel_rfl) (fun _ _ _ h => h) (Or.inl ⟨by rfl, ?_⟩) ?_
            rotate_left 1
            · intro wq _
              go_simp
              try with_reducible rfl
            try simp only [Act.put, List.setIfInBounds_toArray, List.set_cons_zero, List.set_cons_succ]
            refine wpTill_take (i := 6) (oi := ⟨some 74, _, _, _, _, _⟩) (v := ?_) rfl (by kernel_rfl) (by kernel_rfl) (by kernel_rfl) (by kernel_rfl) (by kernel_rfl) (fun _ _ _ h => h) (Or.inl ⟨by rfl, ?_⟩) (by assumption) ?_
            rotate_left 1
            · intro wq hSw
              (try dsimp only at hSw)
              go_simp
              try with_reducible rfl
            try simp only [Act.put, List.setIfInBounds_toArray, List.set_cons_zero, List.set_cons_succ]
            refine wpTill_pure (i := 7) (oi := ⟨some 75, _, _, _, _, _⟩) (v := ?_) rfl (by kernel_rfl) (by kernel_rfl) (by kernel_rfl) (fun _ _ _ h => h) (Or.inl ⟨by rfl, ?_⟩) ?_
            rotate_left 1
            · intro wq _
              go_simp
              try with_reducible rfl
            try simp only [Act.put, List.setIfInBounds_toArray, List.set_cons_zero, List.set_cons_succ]
            refine wpTill_pure (i := 8) (oi := ⟨some 76, _, _, _, _, _⟩) (v := ?_) rfl (by kernel_rfl) (by kernel_rfl) (by kernel_rfl) (fun _ _ _ h => h) (Or.inl ⟨by rfl, ?_⟩) ?_
            rotate_left 1
            · intro wq _
              go_simp
              try with_reducible rfl
            try simp only [Act.put, List.setIfInBounds_toArray, List.set_cons_zero, List.set_cons_succ]
            refine wpTill_one (i := 0) (o := ⟨some 68, _, _, _, _, _⟩) (by kernel_rfl) rfl (fun K hK => ?_)
            go_simp
            try dsimp only
            refine hK.out _ _ ?_ (fun hHeld => ?_)
            · exact ⟨((Blk.below HRB.out HBA.out HRB.out.lt).cell 3).trans HCS.out.1, ((Blk.below HRB.out HBA.out HRB.out.lt).cell 5).trans HCS.out.2.1⟩
            clear hK K
            try simp only [Act.put, List.setIfInBounds_toArray, List.set_cons_zero, List.set_cons_succ]
            refine wpTill_one (i := 3) (o := ⟨some 71, _, _, _, _, _⟩) (by kernel_rfl) rfl (fun K hK => ?_)
            refine step_append_rd _ rfl (.tmp 68) (.tmp 70) 23 rfl W7.heap.size 21 i0 _ 1 4 Try.underlying23 hi z0 z1 z2 rfl (by decide) _ _ _ rfl HOE.out _ A5 n4 c4' (runeCells r.target) rfl HTG8.out (runeCells_one _) (by simp only [maxLen]; omega) (by omega) HBA.out.size ?_
            intro v1 w8 happ
            have HB8 := Lib.hid (HBA.out.trans (happ.below HBA.out.size HOE.out))
            obtain ⟨g1, k1, rfl, hk1, hg1, _⟩ := app_blk happ (g := W7.heap.size) rfl (Nat.le_refl _) HBA.out.size
            have HO8 := Lib.hid happ.own
            have HSR := Lib.hid (RdX.of ((HS7.out.skip' (c := c9) hsz hc9).go HB8.out).rd)
            have HAD := Lib.hid (show (if c9 = n2 then some (⟨b9, o9, none⟩ : Addr) else some ⟨b9, o9 + n2, none⟩) = some ⟨b9, if c9 = n2 then o9 else o9 + n2, none⟩ by split <;> rfl)
            clear happ HOE HBA
            try dsimp only
            refine hK.out _ _ ?_ (fun hHeld => ?_)
            · exact ⟨((Blk.below HRB.out HB8.out HRB.out.lt).cell 3).trans HCS.out.1, ((Blk.below HRB.out HB8.out HRB.out.lt).cell 5).trans HCS.out.2.1⟩
            clear hK K
            try simp only [Act.put, List.setIfInBounds_toArray, List.set_cons_zero, List.set_cons_succ]
            refine wpTill_late (i := 9) (o := ⟨some 77, _, _, _, _, _⟩) (by kernel_rfl) rfl (by kernel_rfl) (fun K hK => ?_)
            refine step_append_rd _ rfl (.tmp 71) (.tmp 76) 23 rfl W7.heap.size 21 i0 _ 1 4 Try.underlying23 hi z0 z1 z2 rfl (by decide) _ _ _ rfl HO8.out _ (if c9 = n2 then some ⟨b9, o9, none⟩ else some ⟨b9, o9 + n2, none⟩) (nz - n2) (c9 - n2) (runeCells (rest.drop n2)) rfl (by rw [HAD.out]; exact HSR.out) (runeCells_one _) (by simp only [maxLen]; omega) (by omega) HB8.out.size ?_
            intro v2 w9 happ
            have HB9 := Lib.hid (HB8.out.trans (happ.below HB8.out.size HO8.out))
            obtain ⟨g9, k9, rfl, hk9, hg9, _⟩ := app_blk happ (g := g1) rfl hg1 HB8.out.size
            have HO9 := Lib.hid happ.own
            clear happ HO8 HSR
            try dsimp only
            refine hK.out _ _ ?_
            clear hK K
            try simp only [Act.put, List.setIfInBounds_toArray, List.set_cons_zero, List.set_cons_succ]
            refine wpTill_pure (i := 10) (oi := ⟨some 9, _, _, _, _, _⟩) (v := ?_) rfl (by kernel_rfl) (by kernel_rfl) (by kernel_rfl) (fun _ _ _ h => h) (Or.inl ⟨by rfl, ?_⟩) ?_
            rotate_left 1
            · intro wq _
              go_simp
              try with_reducible rfl
            try simp only [Act.put, List.setIfInBounds_toArray, List.set_cons_zero, List.set_cons_succ]
            refine wpTill_done (by kernel_rfl) ?_ _
            go_simp
            generalize (if c9 = n2 then some (⟨b9, o9, none⟩ : Addr) else some ⟨b9, o9 + n2, none⟩) = Ask
            have HS9 := Lib.hid (HS7.out.go HB9.out)
            have ho9 : w9.ownsRow W7.heap.size 21 1 (.slice (some ⟨g9, 0, none⟩) (n4 + (nz - n2)) k9) (n4 + (nz - n2)) (runeCells (r.target ++ rest.drop n2)) := by
              have := HO9.out
              rw [runeCells_append]
              simpa [Nat.add_assoc] using this
            have h79 := HB9.out.size
            have hM7 : M < W7.heap.size := HS7.out.out.lt
            have HR9 := Lib.hid (RdX.of_own (X := RestX w.heap.size M (.slice Av nd cv)) ho9 (fun b hb => by
              have := (own_lt ho9 hb).1
              refine ⟨by have := HS7.out.below.size; omega, by omega, fun e => ?_⟩
              have := HS7.out.own_lt b e
              omega))
            have HSN := Lib.hid (HS9.out.other HR9.out)
            have f6 : w9.cell? ⟨W6.heap.size, 6, none⟩ = some (.int .i64 cu) := ((Blk.below HRB.out HB9.out HRB.out.lt).cell 6).trans HCS.out.2.2
            obtain ⟨m, hm⟩ : ∃ m, n4 + (nz - n2) = m := ⟨_, rfl⟩
            rw [hm] at HSN
            rw [hm]
            have hcm : cu ≤ m := by omega
            have hmk : m ≤ k9 := by omega
            have hmm : n4 + (nz - n2) = m := hm
            have HRB9 := Lib.hid (Blk.below HRB.out HB9.out HRB.out.lt)
            clear ho9 HO9 HS7 HS9 HR9 HB9 HB8 HRB HTG7 HTG8 HS6 f3 f5
            by_cases hmu : 4000 < nd + m
            · have HPF := Lib.hid (show runRefP l t = (noOut, (4, 0)) by rw [HP.out, HGM.out (by rw [HLL.out]; omega)]; rfl)
              have hgt : decide ((4000 : Int) < (nd : Int) + (m : Int)) = true := decide_eq_true (by omega)
              have hX := HSN.out.r4
              have hY := HSN.out.r5
              have hB := HSN.out.below
              have x0 := hX.cell 0
              have x1 := hX.cell 1
              have x2 := hX.cell 2
              have y0 := hY.cell 0
              have y1 := hY.cell 1
              have p0 := hX.frozen 0
              have p1 := hX.frozen 1
              have p2 := hX.frozen 2
              have p3 := hY.frozen 0
              have p4 := hY.frozen 1
              have hbf := ((((hB.setCell (p := ⟨w.heap.size, 0, none⟩) (by simp) (.slice none 0 0)).setCell (p := ⟨w.heap.size, 1, none⟩) (by simp) (.int .i64 0)).setCell (p := ⟨w.heap.size, 2, none⟩) (by simp) (.int .i64 0)).setCell (p := ⟨w.heap.size + 1, 0, none⟩) (by simp) (.int .i64 4)).setCell (p := ⟨w.heap.size + 1, 1, none⟩) (by simp) (.int .i64 0)
              have HBF := Lib.hid hbf
              clear hX hY hB hbf
              go_wp2_with fail
              rw [HPF.out]
              exact bodyPost_ret (v := .tuple #[.agg #[.slice none 0 0, .int .i64 0, .int .i64 0], .agg #[.int .i64 4, .int .i64 0]]) (by simp [results, Try.results11, go_sem, x0, x1, x2, y0, y1]) rfl ⟨⟨none, 0, 0, rfl, ⟨rfl, fun h => absurd h (Nat.lt_irrefl 0)⟩, Nat.le_refl _⟩, HBF.out⟩
            · have HGN := Lib.hid (HGR.out (by rw [HLL.out]; omega))
              have HTK := Lib.hid (rdx_take HSN.out.rd hcm)
              rw [runeCells_take] at HTK
              have HEL := Lib.hid (show ((r.target ++ rest.drop n2).take cu).length = cu by have := HSN.out.rl; rw [List.length_take]; omega)
              have hz9 := HSN.out.below.size
              have hgt : decide ((4000 : Int) < (nd : Int) + (m : Int)) = false := decide_eq_false (by omega)
              go_wp2_with (at_builtin; refine wpList_append_rd _ rfl (.tmp 86) (.tmp 90) 23 rfl w.heap.size 21 i0 _ 1 4 Try.underlying23 hi z0 z1 z2 rfl (by decide) _ nd _ rfl HSN.out.own _ (some ⟨g9, 0, none⟩) cu k9 (runeCells ((r.target ++ rest.drop n2).take cu)) rfl HTK.out.of (runeCells_one _) (by simp only [maxLen]; omega) (by omega) HSN.out.below.size ?_)
              intro v8 wa happ
              have HSA := Lib.hid ((HSN.out.push HEL.out happ).skip' (c := k9) hcm hmk)
              have f6 : wa.cell? ⟨W6.heap.size, 6, none⟩ = some (.int .i64 cu) := ((blk_app HRB9.out HSN.out.own (by decide) happ).cell 6).trans HCS.out.2.2
              clear happ HSN HTK
              go_wp2_with fail
              refine ⟨⟨_, _, L, st + 1, pt + 1, nd + cu, g9, (if k9 = cu then 0 else 0 + cu), m - cu, k9 - cu, by go_num, ?_, by omega, HSA.out, by omega, by omega, by omega, HGN.out⟩, by simp [intOf]⟩
              split <;> simp
  · have HP := Lib.hid (show runRefP l t = (noOut, (r1, r2)) by unfold runRefP; rw [hR, if_pos hz])
    clear hR HOK
    go_upto_region 3 with fail
    have hX := HX2.out
    have hY := HY2.out
    have hQ := HQ2.out
    have HB5 := Lib.hid HB2.out
    clear HX1 HY1 HB1 HX2 HY2 HB2 HQ2
    generalize (w1.alloc (.cells #[.int .i64 r1, .int .i64 r2] 28)) = W3 at *
    have x0 := hX.cell 0
    have x1 := hX.cell 1
    have x2 := hX.cell 2
    have y0 := hY.cell 0
    have y1 := hY.cell 1
    have p0 := hX.frozen 0
    have p1 := hX.frozen 1
    have p2 := hX.frozen 2
    have p3 := hY.frozen 0
    have p4 := hY.frozen 1
    have q0 := hQ.cell 0
    have q1 := hQ.cell 1
    have hne1 : ¬ w.heap.size = w.heap.size + 1 := by omega
    have hne2 : ¬ w.heap.size = w1.heap.size := by omega
    have hne3 : ¬ w.heap.size + 1 = w1.heap.size := by omega
    clear hX hY hQ
    go_region
    all_goals
      go_wp2_with fail
      have hbf := (((((HB5.out.setCell (p := ⟨w.heap.size, 0, none⟩) (by simp) (.slice none 0 0)).setCell (p := ⟨w.heap.size, 1, none⟩) (by simp) (.int .i64 0)).setCell (p := ⟨w.heap.size, 2, none⟩) (by simp) (.int .i64 0)).setCell (p := ⟨w.heap.size + 1, 0, none⟩) (by simp) (.int .i64 r1)).setCell (p := ⟨w.heap.size + 1, 1, none⟩) (by simp) (.int .i64 r2)).drew
      rw [HP.out]
      exact bodyPost_ret (v := .tuple #[.agg #[.slice none 0 0, .int .i64 0, .int .i64 0], .agg #[.int .i64 r1, .int .i64 r2]]) (by simp [results, Try.results11, go_sem, x0, x1, x2, y0, y1]) rfl ⟨⟨none, 0, 0, rfl, ⟨rfl, fun h => absurd h (Nat.lt_irrefl 0)⟩, Nat.le_refl _⟩, hbf⟩

theorem ref8_run (X : Nat → Prop) (l : List RuleD) (Ar : Option Addr) (nr cr : Nat) (t : List Int) (At : Option Addr) (nt ct : Nat) (w : World) (hnr : nr ≤ maxLen) (hl : ListX (RuleC w X) w X 7 Ar nr l) (hnt : nt ≤ maxLen) (ht : RdR w w.heap.size At nt t) :
    Calls Try.prog 11 #[.slice Ar nr cr, .slice At nt ct] w fun e w' => PlayPost w.heap.size w' (runRefP l t) e ∧ Below w.heap.size w w' :=
  (ref8_run2 X l Ar nr cr t At nt ct w hnr hl hnt ht).mono fun _ _ ⟨⟨A, n, c, e, h, _⟩, hb⟩ => ⟨⟨A, n, c, e, h⟩, hb⟩

end Go.Proofs.Ytfmebbnccjaadaa
