/- What a script shows of what was typed, after each key: showI. The walks of live.Show and scriptref21.Show. -/
import Derived.Test.YtfmebbnccjaadaaRefGo
import Derived.Test.YtfmebbnccjaadaaTypedAll
import Derived.OneCell
namespace Go.Proofs.Ytfmebbnccjaadaa
open Go.RowKit

def showF (s : ScriptD) (ks : List (Int × Int)) : Nat → Nat → List (List Int) → List (List Int) × (Int × Int)
  | 0, _, out => (out, (0, 0))
  | m + 1, i, out => if (goI s (accAt ks (i + 1))).2.1 ≠ 0 then ([], ((goI s (accAt ks (i + 1))).2.1, (i : Int))) else showF s ks m (i + 1) (out ++ [(goI s (accAt ks (i + 1))).1])
def showI (s : ScriptD) (ks : List (Int × Int)) : List (List Int) × (Int × Int) :=
  if (scriptW s).1 ≠ 0 then ([], scriptW s) else if (typedP ks).2.1 ≠ 0 then ([], (typedP ks).2) else showF s ks ks.length 0 []
theorem infoRunesS : (Try.prog.info? 23).map (fun i => (i.zero, i.size, i.bytes)) = some (some (.slice none 0 0), 1, 24) := by kernel_rfl
def ShX (lo : Nat) (v9 v10 : Value) (b : Nat) : Prop := lo ≤ b ∧ v9.ownBlock ≠ some b ∧ v10.ownBlock ≠ some b
def RunsAt (w : World) (X : Nat → Prop) (outs : List (List Int)) (us : List Value) : Prop := ∀ (i : Nat) (l : List Int) (u : Value), outs[i]? = some l → us[i]? = some u → ∃ A n c, u = .slice A n c ∧ RdX w X 1 A n (runeCells l)
theorem RunsAt.keep {w w' : World} {X X' : Nat → Prop} {outs : List (List Int)} {us : List Value} (hk : Keeps w X w' X') (h : RunsAt w X outs us) : RunsAt w' X' outs us := by
  intro i l u h1 h2
  obtain ⟨A, n, c, e, hr⟩ := h i l u h1 h2
  exact ⟨A, n, c, e, hr.keep hk⟩
/-- What was typed is the row v9; what has been shown is the row v10 of slices. -/
structure ShSt (lo : Nat) (v9 v10 : Value) (acc : List Int) (outs : List (List Int)) (m : Nat) (us : List Value) (w : World) : Prop where
  o9 : OwnR w lo v9 acc
  o10 : w.ownsRow lo 23 1 v10 m us
  len : outs.length = m
  rd : RunsAt w (ShX lo v9 v10) outs us
section
variable {lo m : Nat} {v9 v10 : Value} {acc : List Int} {outs : List (List Int)} {us : List Value} {w w' : World}
theorem ShSt.ul (h : ShSt lo v9 v10 acc outs m us w) : us.length = m := by have := h.o10.1; omega
theorem ShSt.go (h : ShSt lo v9 v10 acc outs m us w) (hb : Below w.heap.size w w') : ShSt lo v9 v10 acc outs m us w' :=
  ⟨own_below h.o9 hb, own_below h.o10 hb, h.len, h.rd.keep (Keeps.any hb)⟩
theorem ShSt.strike (h : ShSt lo v9 v10 acc outs m us w) {v9' : Value} {acc' : List Int} (ho : OwnR w' lo v9' acc') (hg : w.grownBy w' v9.ownBlock) (hv : v9'.ownBlock = none ∨ v9'.ownBlock = v9.ownBlock ∨ ∃ g, v9'.ownBlock = some g ∧ w.heap.size ≤ g) :
    ShSt lo v9' v10 acc' outs m us w' := by
  refine ⟨ho, ?_, h.len, h.rd.keep (fun b hb hl => ?_)⟩
  · refine World.ownsRow.kept h.o10 hg ?_
    rcases ne_of_types h.o10 h.o9 (by decide) with e | e
    · exact .inr e
    · exact .inl e
  · refine ⟨hg.block b hl (fun e => hb.2.1 e.symm), ⟨hb.1, ?_, hb.2.2⟩, Nat.lt_of_lt_of_le hl hg.size⟩
    rcases hv with e | e | ⟨g, e, hge⟩
    · rw [e]; simp
    · rw [e]; exact hb.2.1
    · rw [e]; simp only [ne_eq, Option.some.injEq]; omega
theorem ShSt.push (h : ShSt lo v9 v10 acc outs m us w) {x : List Int} {A : Option Addr} {n c : Nat} (hr : RdX w (ShX lo v9 v10) 1 A n (runeCells x)) {v10' : Value}
    (happ : Appended lo 23 1 v10 w (m + 1) (us ++ [.slice A n c]) v10' w') : ShSt lo v9 v10' acc (outs ++ [x]) (m + 1) (us ++ [.slice A n c]) w' := by
  have hk : Keeps w (ShX lo v9 v10) w' (ShX lo v9 v10') := Keeps.app happ (fun b hb => hb.2.2) (fun b hb hl => ⟨hb.1, hb.2.1, by
    rcases happ.2.2 with e | e
    · rw [e]; exact hb.2.2
    · rw [e]; simp only [ne_eq, Option.some.injEq]; omega⟩)
  refine ⟨own_kept_other h.o9 h.o10 (by decide) happ, happ.own, by simp [h.len], ?_⟩
  intro i l u h1 h2
  rcases get_snoc h1 with ⟨hi, h1⟩ | ⟨hi, rfl⟩
  · rcases get_snoc h2 with ⟨_, h2⟩ | ⟨hj, _⟩
    · obtain ⟨A', n', c', e, hr'⟩ := h.rd i l u h1 h2
      exact ⟨A', n', c', e, hr'.keep hk⟩
    · have := h.len; have := h.ul; omega
  · rcases get_snoc h2 with ⟨hj, _⟩ | ⟨_, rfl⟩
    · have := h.len; have := h.ul; omega
    · exact ⟨A, n, c, rfl, hr.keep hk⟩
end
def ShPost (lo : Nat) (w' : World) (o : List (List Int) × (Int × Int)) (e : Ending) : Prop :=
  ∃ (A : Option Addr) (m c : Nat) (us : List Value), e = .returned (.tuple #[.slice A m c, .agg #[.int .i64 o.2.1, .int .i64 o.2.2]]) ∧ o.1.length = m ∧ RdX w' (fun b => lo ≤ b) 1 A m us ∧ RunsAt w' (fun b => lo ≤ b) o.1 us
theorem ShPost.nil (lo : Nat) (w' : World) (a b : Int) : ShPost lo w' ([], (a, b)) (.returned (.tuple #[.slice none 0 0, .agg #[.int .i64 a, .int .i64 b]])) :=
  ⟨none, 0, 0, [], rfl, rfl, ⟨rfl, fun h => absurd h (Nat.lt_irrefl 0)⟩, fun i l u h => by simp at h⟩
def ShRel (w : World) (s : ScriptD) (ks : List (Int × Int)) (cs : Array Value) (n : Nat) (v9 v10 i : Value) (wr : World) : Prop :=
  ∃ (k : Nat) (outs : List (List Int)) (us : List Value), k ≤ n ∧ i = .int .i64 k ∧ showF s ks n 0 [] = showF s ks (n - k) k outs ∧ ShSt w.heap.size v9 v10 (accAt ks k) outs k us wr ∧ Blk wr w.heap.size 51 cs ∧ Blk wr (w.heap.size + 1) 28 #[.int .i64 0, .int .i64 0] ∧ Below w.heap.size w wr
def ShRel0 (w : World) (s : ScriptD) (ks : List (Int × Int)) (cs : Array Value) (n : Nat) (v10 i : Value) (wr : World) : Prop :=
  ∃ (k : Nat) (outs : List (List Int)) (us : List Value), k ≤ n ∧ i = .int .i64 k ∧ showF s ks n 0 [] = showF s ks (n - k) k outs ∧ ShSt w.heap.size (.slice none 0 0) v10 [] outs k us wr ∧ Blk wr w.heap.size 51 cs ∧ Blk wr (w.heap.size + 1) 28 #[.int .i64 0, .int .i64 0] ∧ Below w.heap.size w wr
theorem set_same {w : World} {g : Nat} {t : TypeId} {cs : Array Value} (h : Blk w g t cs) (i : Nat) {v : Value} (hv : cs[i]? = some v) : w.setCell ⟨g, i, none⟩ v = w := by
  have e0 : cs.setIfInBounds i v = cs := by
    apply Array.ext_getElem?
    intro k
    rw [Array.getElem?_setIfInBounds]
    by_cases hk : i = k
    · subst hk
      rw [if_pos rfl, hv, if_pos (Array.getElem?_eq_some_iff.1 hv).1]
    · rw [if_neg hk]
  have e : (w.setCell ⟨g, i, none⟩ v).heap = w.heap := by
    unfold World.setCell
    apply Array.ext_getElem?
    intro k
    simp only [Array.getElem?_modify]
    by_cases hk : g = k
    · subst hk
      unfold Blk at h
      rw [if_pos rfl, h]
      simp [e0]
    · rw [if_neg hk]
  have e2 : w.setCell ⟨g, i, none⟩ v = { w with heap := (w.setCell ⟨g, i, none⟩ v).heap } := rfl
  rw [e2, e]
theorem keys_take {w : World} {B n k : Nat} {A : Option Addr} {ks : List (Int × Int)} (h : RdK w B A n ks) (hk : k ≤ n) : RdK w B A k (ks.take k) := by
  refine ⟨by rw [keyCells_length, List.length_take, h.len]; omega, fun h0 => ?_⟩
  obtain ⟨b, off, e, hb, hc⟩ := h.2 (by omega)
  refine ⟨b, off, e, hb, fun j u hu => hc j u ?_⟩
  have e2 : keyCells ks = keyCells (ks.take k) ++ keyCells (ks.drop k) := by rw [keyCells, keyCells, keyCells, ← List.flatMap_append, List.take_append_drop]
  rw [e2, List.getElem?_append_left (List.getElem?_eq_some_iff.1 hu).1]
  exact hu

set_option maxRecDepth 100000 in
set_option maxHeartbeats 12800000 in
theorem live_show (X : Nat → Prop) (s : ScriptD) (ks : List (Int × Int)) (A1 A2 Ak : Option Addr) (n1 c1 n2 c2 nk ck : Nat) (w : World) (hs : ScriptAt w X s A1 n1 A2 n2) (hnk : nk ≤ maxLen) (hk : RdK w w.heap.size Ak nk ks) :
    Calls Try.prog 29 #[.agg #[.bool s.only?, .slice A1 n1 c1, .slice A2 n2 c2], .slice Ak nk ck] w fun e w' => ShPost w.heap.size w' (showI s ks) e ∧ Below w.heap.size w w' := by
  obtain ⟨i1, hi1, y0', y1', y2'⟩ := info_parts infoRunesS
  have hkl := hk.len
  have hb0 := ((Below.refl w.heap.size w).alloc (Nat.le_refl _) (.cells #[.bool s.only?, .slice A1 n1 c1, .slice A2 n2 c2] 51)).alloc (by simp) (.cells #[.int .i64 0, .int .i64 0] 28)
  have HX0 := Lib.hid (Blk.alloc (Blk.new w 51 #[.bool s.only?, .slice A1 n1 c1, .slice A2 n2 c2]) (.cells #[.int .i64 0, .int .i64 0] 28))
  have HY0 := Lib.hid (show Blk ((w.alloc (.cells #[.bool s.only?, .slice A1 n1 c1, .slice A2 n2 c2] 51)).alloc (.cells #[.int .i64 0, .int .i64 0] 28)) (w.heap.size + 1) 28 #[.int .i64 0, .int .i64 0] by
    have := Blk.new (w.alloc (.cells #[.bool s.only?, .slice A1 n1 c1, .slice A2 n2 c2] 51)) 28 #[.int .i64 0, .int .i64 0]
    simpa using this)
  have HB0 := Lib.hid hb0
  have HSA := Lib.hid (fun (W : World) (hb : Below w.heap.size w W) => show ScriptAt W X s A1 n1 A2 n2 from hs.keep (Keeps.any hb))
  have HKX := Lib.hid (fun (W : World) (hb : Below w.heap.size w W) => show RdK W W.heap.size Ak nk ks from (Rd.below hk hb).more hb.size)
  have HKW := Lib.hid hk
  simp only [maxLen] at hnk
  clear hb0 hs hk
  go_enter Try.func29, Try.ntmps29
  go_upto_region 1 with fail
  generalize (w.alloc (.cells #[.bool s.only?, .slice A1 n1 c1, .slice A2 n2 c2] 51)).alloc (.cells #[.int .i64 0, .int .i64 0] 28) = W0 at *
  have HW := Lib.hid (chain_wrong X s A1 A2 n1 c1 n2 c2 W0 (HSA.out W0 HB0.out))
  have x0 : W0.cell? ⟨w.heap.size, 0, none⟩ = some (.bool s.only?) := HX0.out.cell 0
  have x1 : W0.cell? ⟨w.heap.size, 1, none⟩ = some (.slice A1 n1 c1) := HX0.out.cell 1
  have x2 : W0.cell? ⟨w.heap.size, 2, none⟩ = some (.slice A2 n2 c2) := HX0.out.cell 2
  go_wp2_with fail
  refine HW.out.mono ?_
  rintro e w1 ⟨rfl, hb1⟩
  have HX1 := Lib.hid (Blk.below HX0.out hb1 HX0.out.lt)
  have HY1 := Lib.hid (Blk.below HY0.out hb1 HY0.out.lt)
  have HB1 := Lib.hid (HB0.out.trans (hb1.mono HB0.out.size))
  clear hb1 HW HX0 HY0 HB0 x0 x1 x2
  obtain ⟨r1, r2, hR⟩ : ∃ r1 r2, scriptW s = (r1, r2) := ⟨_, _, rfl⟩
  have HGI := Lib.hid (show showI s ks = if r1 ≠ 0 then ([], (r1, r2)) else if (typedP ks).2.1 ≠ 0 then ([], (typedP ks).2) else showF s ks ks.length 0 [] by unfold showI; rw [hR])
  rw [hR]
  dsimp only
  clear hR
  have hw1 := HY1.out.lt
  have HX2 := Lib.hid (HX1.out.alloc (.cells #[.int .i64 r1, .int .i64 r2] 28))
  have HY2 := Lib.hid (HY1.out.alloc (.cells #[.int .i64 r1, .int .i64 r2] 28))
  have HQ2 := Lib.hid (Blk.new w1 28 #[.int .i64 r1, .int .i64 r2])
  have HB2 := Lib.hid (HB1.out.alloc HB1.out.size (.cells #[.int .i64 r1, .int .i64 r2] 28))
  go_upto_region 2 with fail
  clear HX1 HY1 HB1
  generalize hW2 : w1.alloc (.cells #[.int .i64 r1, .int .i64 r2] 28) = W2 at *
  clear hW2
  have q0 := HQ2.out.cell 0
  have q1 := HQ2.out.cell 1
  by_cases hz : r1 = 0
  · subst hz
    have HGI1 := Lib.hid (HGI.out.trans (if_neg (fun h => h rfl)))
    have HTY := Lib.hid (typed_any Ak nk ck ks W2 hnk (HKX.out W2 HB2.out))
    go_wp2_with fail
    refine HTY.out.mono ?_
    rintro e w3 ⟨v3, rfl, _, hb3⟩
    have hx3 := Blk.below HX2.out hb3 HX2.out.lt
    have hy3 := Blk.below HY2.out hb3 HY2.out.lt
    have hb3' := HB2.out.trans (hb3.mono HB2.out.size)
    have HOK := Lib.hid (fun (h : (typedP ks).2.1 = 0) => And.intro (typed_ok h) (fun i => typed_take h i))
    obtain ⟨ty, e1, e2, hT⟩ : ∃ ty e1 e2, typedP ks = (ty, e1, e2) := ⟨_, _, _, rfl⟩
    rw [hT] at HGI1 ⊢
    have HOK2 := Lib.hid (fun (h : e1 = 0) => HOK.out (by rw [hT]; exact h))
    dsimp only at HGI1 ⊢
    have HX4 := Lib.hid (hx3.alloc (.cells #[.int .i64 e1, .int .i64 e2] 28))
    have HY4 := Lib.hid (hy3.alloc (.cells #[.int .i64 e1, .int .i64 e2] 28))
    have HQ4 := Lib.hid (Blk.new w3 28 #[.int .i64 e1, .int .i64 e2])
    have HB4 := Lib.hid (hb3'.alloc hb3'.size (.cells #[.int .i64 e1, .int .i64 e2] 28))
    have hw3 : w.heap.size + 1 < w3.heap.size := hy3.lt
    clear hx3 hy3 hb3 hb3' hT HOK HTY HX2 HY2 HB2 HQ2 HGI q0 q1
    go_upto_region 5 with fail
    generalize hW4 : w3.alloc (.cells #[.int .i64 e1, .int .i64 e2] 28) = W4 at *
    clear hW4
    have q0 := HQ4.out.cell 0
    have q1 := HQ4.out.cell 1
    by_cases hz : e1 = 0
    · subst hz
      obtain ⟨hk5, htk⟩ := HOK2.out rfl
      have HTK := Lib.hid htk
      have HGI2 := Lib.hid (show showI s ks = showF s ks nk 0 [] by rw [HGI1.out, if_neg (fun h => h rfl), hkl])
      have hn5 : nk ≤ 500 := by omega
      generalize hcs : (#[.bool s.only?, .slice A1 n1 c1, .slice A2 n2 c2] : Array Value) = cs at *
      have HCS := Lib.hid (show cs[0]? = some (.bool s.only?) ∧ cs[1]? = some (.slice A1 n1 c1) ∧ cs[2]? = some (.slice A2 n2 c2) by subst hcs; exact ⟨rfl, rfl, rfl⟩)
      have HST0 := Lib.hid (show ShSt w.heap.size (.slice none 0 0) (.slice none 0 0) [] [] 0 [] W4 from ⟨OwnR.nil _ _, World.ownsRow_nil _ _ _ _, rfl, fun i l u h => by simp at h⟩)
      clear hcs htk HOK2 HGI1 HQ4
      go_wp2_with fail
      go_loopw [9, 10, 32] (ShRel w s ks cs nk) (fun _ _ i _ => nk - (intOf i).toNat)
      case atStart => exact ⟨0, [], [], Nat.zero_le _, rfl, rfl, HST0.out, HX4.out, HY4.out, HB4.out⟩
      case round =>
        obtain ⟨k, outs, us, hk, rfl, hgo, hst, hxs, hys, hb⟩ := hrel
        have hz := hb.size
        have hyl := hys.lt
        obtain ⟨Ao, co, rfl, _⟩ := own_form hst.o10
        have HGO := Lib.hid (HGI2.out.trans hgo)
        have HXS := Lib.hid hxs
        have HYS := Lib.hid hys
        have HB := Lib.hid hb
        have HST := Lib.hid hst
        clear hgo hxs hys hb
        by_cases hlt : k < nk
        · obtain ⟨b, off, kd, rd, rfl, hab, hc1, hc2, hdrop⟩ := RdK.at HKW.out hlt
          have hkx : ks[k]? = some (kd, rd) := by
            have := congrArg (fun l => l[0]?) hdrop
            simpa using this
          have HAC := Lib.hid (accAt_succ hkx)
          have HAL := Lib.hid (accAt_len ks (k + 1))
          have HAL0 := Lib.hid (accAt_len ks k)
          rw [show nk - k = (nk - (k + 1)) + 1 by omega, showF] at HGO
          clear hdrop hkx
          have hd1 := (HB.out.cell (p := ⟨b, off + k * 2, none⟩) hab).trans hc1
          have hd2 := (HB.out.cell (p := ⟨b, off + k * 2 + 1, none⟩) hab).trans hc2
          have hba := (Below.refl wr.heap.size wr).alloc (Nat.le_refl _) (.cells #[.int .i64 kd, .int .i32 rd] 116)
          have HS1 := Lib.hid (HST.out.go hba)
          have HX1 := Lib.hid (HXS.out.alloc (.cells #[.int .i64 kd, .int .i32 rd] 116))
          have HY1 := Lib.hid (HYS.out.alloc (.cells #[.int .i64 kd, .int .i32 rd] 116))
          have HB1 := Lib.hid (HB.out.trans (hba.mono hz))
          have HKB := Lib.hid (Blk.new wr 116 #[.int .i64 kd, .int .i32 rd])
          clear hba hc1 hc2 hst
          go_upto_region 12 with fail
          generalize hW1 : wr.alloc (.cells #[.int .i64 kd, .int .i32 rd] 116) = W1 at *
          have hwW1 : wr.heap.size < W1.heap.size := HKB.out.lt
          clear hW1 hd1 hd2
          have k0 : W1.cell? ⟨wr.heap.size, 0, none⟩ = some (.int .i64 kd) := HKB.out.cell 0
          have k1 : W1.cell? ⟨wr.heap.size, 1, none⟩ = some (.int .i32 rd) := HKB.out.cell 1
          have HSK := Lib.hid (strike_any kd rd _ (accAt ks k) w.heap.size W1 HB1.out.size HS1.out.o9 (by have := HAL0.out; omega))
          go_wp2_with fail
          refine HSK.out.mono ?_
          rintro e w2 ⟨v9', rfl, ho9, hgr, hv9⟩
          have HS2 := Lib.hid (HS1.out.strike ho9 hgr hv9)
          have hbg : Below w.heap.size W1 w2 := (Below.refl _ _).grown hgr HB1.out.size (fun q hq => (World.ownsRow.lt HS1.out.o9 q hq).1)
          have HB2 := Lib.hid (HB1.out.trans hbg)
          have HX2 := Lib.hid (show Blk w2 w.heap.size 51 cs from (hgr.block _ HX1.out.lt (fun e => own_ne_blk' HS1.out.o9 HX1.out (by decide) e.symm)).trans HX1.out)
          have HY2 := Lib.hid (show Blk w2 (w.heap.size + 1) 28 #[.int .i64 0, .int .i64 0] from (hgr.block _ HY1.out.lt (fun e => own_ne_blk' HS1.out.o9 HY1.out (by decide) e.symm)).trans HY1.out)
          rw [← HAC.out] at HS2
          clear ho9 hgr hv9 hbg HSK HS1 HB1 HX1 HY1 HKB HST k0 k1
          have hs2 := HS2.out.o9
          obtain ⟨na, hna⟩ : ∃ na, (accAt ks (k + 1)).length = na := ⟨_, rfl⟩
          unfold OwnR at hs2
          rw [hna] at hs2
          obtain ⟨Av, cv, rfl, hcv⟩ := own_form hs2
          have HTD := Lib.hid (Rd.of_own hs2)
          have hna5 : na ≤ 501 := by have := HAL.out; omega
          have HS3 := Lib.hid HS2.out
          have HB3 := Lib.hid HB2.out
          have HX3 := Lib.hid HX2.out
          have HY3 := Lib.hid HY2.out
          clear hs2 hna
          have hx0 : w2.cell? ⟨w.heap.size, 0, none⟩ = some (.bool s.only?) := (HX3.out.cell 0).trans HCS.out.1
          have hx1 : w2.cell? ⟨w.heap.size, 1, none⟩ = some (.slice A1 n1 c1) := (HX3.out.cell 1).trans HCS.out.2.1
          have hx2 : w2.cell? ⟨w.heap.size, 2, none⟩ = some (.slice A2 n2 c2) := (HX3.out.cell 2).trans HCS.out.2.2
          have HGC := Lib.hid (chain_go X s (accAt ks (k + 1)) A1 A2 Av n1 c1 n2 c2 na cv w2 (HSA.out w2 HB3.out) hcv (by simp only [maxLen]; omega) HTD.out)

          go_wp2_with fail
          refine HGC.out.mono ?_
          rintro e w5 ⟨⟨A5, n5, c5, rfl, hr5⟩, hb5⟩
          obtain ⟨x, f1, f2, hg⟩ : ∃ x f1 f2, goI s (accAt ks (k + 1)) = (x, (f1, f2)) := ⟨_, _, _, rfl⟩
          rw [hg] at hr5 HGO ⊢
          dsimp only at hr5 HGO ⊢
          have hba := (Below.refl w5.heap.size w5).alloc (Nat.le_refl _) (.cells #[.int .i64 f1, .int .i64 f2] 28)
          have hbb := hb5.trans (hba.mono hb5.size)
          have HS5 := Lib.hid (HS3.out.go hbb)
          have HX5 := Lib.hid (Blk.below HX3.out hbb HX3.out.lt)
          have HY5 := Lib.hid (Blk.below HY3.out hbb HY3.out.lt)
          have HB5 := Lib.hid (HB3.out.trans (hbb.mono HB3.out.size))
          have HQ5 := Lib.hid (Blk.new w5 28 #[.int .i64 f1, .int .i64 f2])
          have hlo5 := HB3.out.size
          have HR5 := Lib.hid ((hr5.keep (X' := ShX w.heap.size (.slice Av na cv) (.slice Ao k co)) (Keeps.refl (fun b hb => ⟨Nat.le_trans hlo5 hb, fun e => by have := (own_lt HS3.out.o9 e).2; omega, fun e => by have := (own_lt HS3.out.o10 e).2; omega⟩))).keep (Keeps.any hba))
          have hw5 : w.heap.size + 1 < w5.heap.size := Nat.lt_of_lt_of_le HY3.out.lt hb5.size
          clear hr5 hba hbb hb5 HGC hx0 hx1 hx2 hg
          go_upto_region 14 with fail
          generalize hW5 : w5.alloc (.cells #[.int .i64 f1, .int .i64 f2] 28) = W5 at *
          have hw55 : w5.heap.size < W5.heap.size := HQ5.out.lt
          clear hW5
          have q0 := HQ5.out.cell 0
          have q1 := HQ5.out.cell 1
          by_cases hf : f1 = 0
          · subst hf
            have HGN := Lib.hid (HGO.out.trans (if_neg (fun h => h rfl)))
            have hbn := (Below.refl W5.heap.size W5).alloc (Nat.le_refl _) (.cells #[.slice A5 n5 c5] 23)
            have HS6 := Lib.hid (HS5.out.go hbn)
            have HX6 := Lib.hid (Blk.below HX5.out hbn HX5.out.lt)
            have HY6 := Lib.hid (Blk.below HY5.out hbn HY5.out.lt)
            have HB6 := Lib.hid (HB5.out.trans (hbn.mono HB5.out.size))
            have HR6 := Lib.hid (HR5.out.keep (Keeps.any hbn))
            have HN6 := Lib.hid (Rd.new W5 23 1 1 [.slice A5 n5 c5] rfl)
            have H1C := Lib.hid (show ∀ u ∈ [Value.slice A5 n5 c5], u.oneCell' = true by intro u hu; simp at hu; subst hu; rfl)
            clear hbn
            go_wp2_with (at_builtin; refine wpList_append_rd _ rfl (.tmp 56) (.tmp 58) 59 rfl w.heap.size 23 i1 _ 1 24 Try.underlying59 hi1 y0' y1' y2' rfl (by decide) _ k _ rfl HS6.out.o10 _ (some ⟨W5.heap.size, 0, none⟩) 1 1 [.slice A5 n5 c5] rfl HN6.out H1C.out (by simp only [maxLen]; omega) (by omega) HB6.out.size ?_)
            intro v10' w7 happ
            have HS7 := Lib.hid (HS6.out.push HR6.out happ)
            have HX7 := Lib.hid (blk_app HX6.out HS6.out.o10 (by decide) happ)
            have HY7 := Lib.hid (blk_app HY6.out HS6.out.o10 (by decide) happ)
            have HB7 := Lib.hid (HB6.out.trans (happ.below HB6.out.size HS6.out.o10))
            clear happ
            go_wp2_with fail
            exact ⟨⟨k + 1, outs ++ [x], _, by omega, by go_num, HGI2.out.symm.trans HGN.out, HS7.out, HX7.out, HY7.out, HB7.out⟩, by simp [intOf]; omega⟩
          · have HG := Lib.hid (HGO.out.trans (if_pos hf))
            have y0 := HY5.out.cell 0
            have y1 := HY5.out.cell 1
            have g0 := HY5.out.frozen 0
            have g1 := HY5.out.frozen 1
            have hne1 : ¬ w.heap.size + 1 = w5.heap.size := by omega
            have hne2 : ¬ w5.heap.size = w.heap.size + 1 := by omega
            go_upto_region 15 with fail
            go_region
            all_goals
              go_wp2_with fail
              rw [HG.out]
              exact bodyPost_ret (v := .tuple #[.slice none 0 0, .agg #[.int .i64 f1, .int .i64 k]]) (by simp [results, Try.results29, go_sem, y0, y1]) rfl ⟨ShPost.nil _ _ _ _, ((HB5.out.setCell (by simp) _).setCell (by simp) _).drew⟩
        · obtain rfl : k = nk := by omega
          have HG := Lib.hid (show showI s ks = (outs, (0, 0)) by rw [HGO.out, Nat.sub_self, showF])
          have y0 := HYS.out.cell 0
          have y1 := HYS.out.cell 1
          have g0 := HYS.out.frozen 0
          have g1 := HYS.out.frozen 1
          have q1 := own_setCell_ne (i := 0) (u := .int .i64 0) hst.o10 HYS.out (by decide)
          have q2 := own_setCell_ne (i := 1) (u := .int .i64 0) q1 (HYS.out.put 0 _) (by decide)
          have HRF := Lib.hid (RdX.of_own (X := fun b => w.heap.size ≤ b) q2 (fun b hb => (own_lt q2 hb).1))
          have HLN := Lib.hid hst.len
          have HRD := Lib.hid (show RunsAt ((wr.setCell ⟨w.heap.size + 1, 0, none⟩ (.int .i64 0)).setCell ⟨w.heap.size + 1, 1, none⟩ (.int .i64 0)) (fun b => w.heap.size ≤ b) outs us from by
            have e0 : wr.setCell ⟨w.heap.size + 1, 0, none⟩ (.int .i64 0) = wr := set_same HYS.out 0 rfl
            have e1 : wr.setCell ⟨w.heap.size + 1, 1, none⟩ (.int .i64 0) = wr := set_same HYS.out 1 rfl
            rw [e0, e1]
            exact hst.rd.keep (Keeps.refl (fun _ h => h.1)))
          clear hst q1 q2
          go_wp2_with fail
          rw [HG.out]
          exact bodyPost_ret (v := .tuple #[.slice Ao k co, .agg #[.int .i64 0, .int .i64 0]]) (by simp [results, Try.results29, go_sem, y0, y1]) rfl ⟨⟨Ao, k, co, us, rfl, HLN.out, HRF.out, HRD.out⟩, (HB.out.setCell (by simp) _).setCell (by simp) _⟩
    · have HG := Lib.hid (HGI1.out.trans (if_pos hz))
      have y0 := HY4.out.cell 0
      have y1 := HY4.out.cell 1
      have g0 := HY4.out.frozen 0
      have g1 := HY4.out.frozen 1
      have hne1 : ¬ w.heap.size + 1 = w3.heap.size := by omega
      have hne2 : ¬ w3.heap.size = w.heap.size + 1 := by omega
      go_upto_region 6 with fail
      go_region
      all_goals
        go_wp2_with fail
        rw [HG.out]
        exact bodyPost_ret (v := .tuple #[.slice none 0 0, .agg #[.int .i64 e1, .int .i64 e2]]) (by simp [results, Try.results29, go_sem, y0, y1]) rfl ⟨ShPost.nil _ _ _ _, ((HB4.out.setCell (by simp) _).setCell (by simp) _).drew⟩
  · have HG := Lib.hid (HGI.out.trans (if_pos hz))
    have y0 := HY2.out.cell 0
    have y1 := HY2.out.cell 1
    have g0 := HY2.out.frozen 0
    have g1 := HY2.out.frozen 1
    have hne1 : ¬ w.heap.size + 1 = w1.heap.size := by omega
    have hne2 : ¬ w1.heap.size = w.heap.size + 1 := by omega
    go_upto_region 3 with fail
    go_region
    all_goals
      go_wp2_with fail
      rw [HG.out]
      exact bodyPost_ret (v := .tuple #[.slice none 0 0, .agg #[.int .i64 r1, .int .i64 r2]]) (by simp [results, Try.results29, go_sem, y0, y1]) rfl ⟨ShPost.nil _ _ _ _, ((HB2.out.setCell (by simp) _).setCell (by simp) _).drew⟩

set_option maxRecDepth 100000 in
set_option maxHeartbeats 12800000 in
theorem ref21_show (X : Nat → Prop) (s : ScriptD) (ks : List (Int × Int)) (A1 A2 Ak : Option Addr) (n1 c1 n2 c2 nk ck : Nat) (w : World) (hs : ScriptAt w X s A1 n1 A2 n2) (hnk : nk ≤ maxLen) (hck : nk ≤ ck) (hk : RdK w w.heap.size Ak nk ks) :
    Calls Try.prog 30 #[.agg #[.bool s.only?, .slice A1 n1 c1, .slice A2 n2 c2], .slice Ak nk ck] w fun e w' => ShPost w.heap.size w' (showI s ks) e ∧ Below w.heap.size w w' := by
  obtain ⟨i1, hi1, y0', y1', y2'⟩ := info_parts infoRunesS
  have hkl := hk.len
  have hb0 := ((Below.refl w.heap.size w).alloc (Nat.le_refl _) (.cells #[.bool s.only?, .slice A1 n1 c1, .slice A2 n2 c2] 51)).alloc (by simp) (.cells #[.int .i64 0, .int .i64 0] 28)
  have HX0 := Lib.hid (Blk.alloc (Blk.new w 51 #[.bool s.only?, .slice A1 n1 c1, .slice A2 n2 c2]) (.cells #[.int .i64 0, .int .i64 0] 28))
  have HY0 := Lib.hid (show Blk ((w.alloc (.cells #[.bool s.only?, .slice A1 n1 c1, .slice A2 n2 c2] 51)).alloc (.cells #[.int .i64 0, .int .i64 0] 28)) (w.heap.size + 1) 28 #[.int .i64 0, .int .i64 0] by
    have := Blk.new (w.alloc (.cells #[.bool s.only?, .slice A1 n1 c1, .slice A2 n2 c2] 51)) 28 #[.int .i64 0, .int .i64 0]
    simpa using this)
  have HB0 := Lib.hid hb0
  have HSA := Lib.hid (fun (W : World) (hb : Below w.heap.size w W) => show ScriptAt W X s A1 n1 A2 n2 from hs.keep (Keeps.any hb))
  have HKX := Lib.hid (fun (W : World) (hb : Below w.heap.size w W) => show RdK W W.heap.size Ak nk ks from (Rd.below hk hb).more hb.size)
  have HKW := Lib.hid hk
  simp only [maxLen] at hnk
  clear hb0 hs hk
  go_enter Try.func30, Try.ntmps30
  go_upto_region 1 with fail
  generalize (w.alloc (.cells #[.bool s.only?, .slice A1 n1 c1, .slice A2 n2 c2] 51)).alloc (.cells #[.int .i64 0, .int .i64 0] 28) = W0 at *
  have HW := Lib.hid (ref13_wrong X s A1 A2 n1 c1 n2 c2 W0 (HSA.out W0 HB0.out))
  have x0 : W0.cell? ⟨w.heap.size, 0, none⟩ = some (.bool s.only?) := HX0.out.cell 0
  have x1 : W0.cell? ⟨w.heap.size, 1, none⟩ = some (.slice A1 n1 c1) := HX0.out.cell 1
  have x2 : W0.cell? ⟨w.heap.size, 2, none⟩ = some (.slice A2 n2 c2) := HX0.out.cell 2
  go_wp2_with fail
  refine HW.out.mono ?_
  rintro e w1 ⟨rfl, hb1⟩
  have HX1 := Lib.hid (Blk.below HX0.out hb1 HX0.out.lt)
  have HY1 := Lib.hid (Blk.below HY0.out hb1 HY0.out.lt)
  have HB1 := Lib.hid (HB0.out.trans (hb1.mono HB0.out.size))
  clear hb1 HW HX0 HY0 HB0 x0 x1 x2
  obtain ⟨r1, r2, hR⟩ : ∃ r1 r2, scriptW s = (r1, r2) := ⟨_, _, rfl⟩
  have HGI := Lib.hid (show showI s ks = if r1 ≠ 0 then ([], (r1, r2)) else if (typedP ks).2.1 ≠ 0 then ([], (typedP ks).2) else showF s ks ks.length 0 [] by unfold showI; rw [hR])
  rw [hR]
  dsimp only
  clear hR
  have hw1 := HY1.out.lt
  have HX2 := Lib.hid (HX1.out.alloc (.cells #[.int .i64 r1, .int .i64 r2] 28))
  have HY2 := Lib.hid (HY1.out.alloc (.cells #[.int .i64 r1, .int .i64 r2] 28))
  have HQ2 := Lib.hid (Blk.new w1 28 #[.int .i64 r1, .int .i64 r2])
  have HB2 := Lib.hid (HB1.out.alloc HB1.out.size (.cells #[.int .i64 r1, .int .i64 r2] 28))
  go_upto_region 2 with fail
  clear HX1 HY1 HB1
  generalize hW2 : w1.alloc (.cells #[.int .i64 r1, .int .i64 r2] 28) = W2 at *
  clear hW2
  have q0 := HQ2.out.cell 0
  have q1 := HQ2.out.cell 1
  by_cases hz : r1 = 0
  · subst hz
    have HGI1 := Lib.hid (HGI.out.trans (if_neg (fun h => h rfl)))
    have HTY := Lib.hid (ref21_typed Ak nk ck ks W2 hnk (HKX.out W2 HB2.out))
    go_wp2_with fail
    refine HTY.out.mono ?_
    rintro e w3 ⟨v3, rfl, _, hb3⟩
    have hx3 := Blk.below HX2.out hb3 HX2.out.lt
    have hy3 := Blk.below HY2.out hb3 HY2.out.lt
    have hb3' := HB2.out.trans (hb3.mono HB2.out.size)
    have HOK := Lib.hid (fun (h : (typedP ks).2.1 = 0) => And.intro (typed_ok h) (fun i => typed_take h i))
    obtain ⟨ty, e1, e2, hT⟩ : ∃ ty e1 e2, typedP ks = (ty, e1, e2) := ⟨_, _, _, rfl⟩
    rw [hT] at HGI1 ⊢
    have HOK2 := Lib.hid (fun (h : e1 = 0) => HOK.out (by rw [hT]; exact h))
    dsimp only at HGI1 ⊢
    have HX4 := Lib.hid (hx3.alloc (.cells #[.int .i64 e1, .int .i64 e2] 28))
    have HY4 := Lib.hid (hy3.alloc (.cells #[.int .i64 e1, .int .i64 e2] 28))
    have HQ4 := Lib.hid (Blk.new w3 28 #[.int .i64 e1, .int .i64 e2])
    have HB4 := Lib.hid (hb3'.alloc hb3'.size (.cells #[.int .i64 e1, .int .i64 e2] 28))
    have hw3 : w.heap.size + 1 < w3.heap.size := hy3.lt
    clear hx3 hy3 hb3 hb3' hT HOK HTY HX2 HY2 HB2 HQ2 HGI q0 q1
    go_upto_region 5 with fail
    generalize hW4 : w3.alloc (.cells #[.int .i64 e1, .int .i64 e2] 28) = W4 at *
    clear hW4
    have q0 := HQ4.out.cell 0
    have q1 := HQ4.out.cell 1
    by_cases hz : e1 = 0
    · subst hz
      obtain ⟨hk5, htk⟩ := HOK2.out rfl
      have HTK := Lib.hid htk
      have HGI2 := Lib.hid (show showI s ks = showF s ks nk 0 [] by rw [HGI1.out, if_neg (fun h => h rfl), hkl])
      have hn5 : nk ≤ 500 := by omega
      generalize hcs : (#[.bool s.only?, .slice A1 n1 c1, .slice A2 n2 c2] : Array Value) = cs at *
      have HCS := Lib.hid (show cs[0]? = some (.bool s.only?) ∧ cs[1]? = some (.slice A1 n1 c1) ∧ cs[2]? = some (.slice A2 n2 c2) by subst hcs; exact ⟨rfl, rfl, rfl⟩)
      have HST0 := Lib.hid (show ShSt w.heap.size (.slice none 0 0) (.slice none 0 0) [] [] 0 [] W4 from ⟨OwnR.nil _ _, World.ownsRow_nil _ _ _ _, rfl, fun i l u h => by simp at h⟩)
      clear hcs htk HOK2 HGI1 HQ4
      go_wp2_with fail
      go_loopw [9, 32] (ShRel0 w s ks cs nk) (fun _ i _ => nk - (intOf i).toNat)
      case atStart => exact ⟨0, [], [], Nat.zero_le _, rfl, rfl, HST0.out, HX4.out, HY4.out, HB4.out⟩
      case round =>
        obtain ⟨k, outs, us, hk, rfl, hgo, hst, hxs, hys, hb⟩ := hrel
        have hz := hb.size
        have hyl := hys.lt
        obtain ⟨Ao, co, rfl, _⟩ := own_form hst.o10
        have HGO := Lib.hid (HGI2.out.trans hgo)
        have HXS := Lib.hid hxs
        have HYS := Lib.hid hys
        have HB := Lib.hid hb
        have HST := Lib.hid hst
        clear hgo hxs hys hb
        by_cases hlt : k < nk
        · obtain ⟨b, off, kd, rd, rfl, hab, hc1, hc2, hdrop⟩ := RdK.at HKW.out hlt
          have hkx : ks[k]? = some (kd, rd) := by
            have := congrArg (fun l => l[0]?) hdrop
            simpa using this
          have HAC := Lib.hid (accAt_succ hkx)
          have HAL := Lib.hid (accAt_len ks (k + 1))
          have HAL0 := Lib.hid (accAt_len ks k)
          rw [show nk - k = (nk - (k + 1)) + 1 by omega, showF] at HGO
          clear hdrop hkx
          have HCK := Lib.hid (show k + 1 ≤ ck by omega)
          have HTY := Lib.hid (ref21_typed (some ⟨b, off, none⟩) (k + 1) ck (ks.take (k + 1)) wr (by omega) (keys_take (HKX.out wr HB.out) (by omega)))
          rw [HTK.out (k + 1)] at HTY
          clear hc1 hc2 hst
          go_wp2_with fail
          refine HTY.out.mono ?_
          rintro e w2 ⟨v9', rfl, ho9, hb2⟩
          dsimp only at ho9 ⊢
          have hba := (Below.refl w2.heap.size w2).alloc (Nat.le_refl _) (.cells #[.int .i64 0, .int .i64 0] 28)
          have hbb := hb2.trans (hba.mono hb2.size)
          have HS3 := Lib.hid (HST.out.go hbb)
          have HX3 := Lib.hid (Blk.below HXS.out hbb HXS.out.lt)
          have HY3 := Lib.hid (Blk.below HYS.out hbb HYS.out.lt)
          have HB3 := Lib.hid (HB.out.trans (hbb.mono hz))
          obtain ⟨na, hna⟩ : ∃ na, (accAt ks (k + 1)).length = na := ⟨_, rfl⟩
          have hs2 := own_below ho9 hba
          rw [hna] at hs2
          obtain ⟨Av, cv, rfl, hcv⟩ := own_form hs2
          have HTD := Lib.hid (Rd.of_own hs2)
          have hna5 : na ≤ 501 := by have := HAL.out; omega
          clear ho9 hb2 hba hbb hs2 hna HTY
          go_upto_region 12 with fail
          generalize w2.alloc (.cells #[.int .i64 0, .int .i64 0] 28) = W2b at *
          have hx0 : W2b.cell? ⟨w.heap.size, 0, none⟩ = some (.bool s.only?) := (HX3.out.cell 0).trans HCS.out.1
          have hx1 : W2b.cell? ⟨w.heap.size, 1, none⟩ = some (.slice A1 n1 c1) := (HX3.out.cell 1).trans HCS.out.2.1
          have hx2 : W2b.cell? ⟨w.heap.size, 2, none⟩ = some (.slice A2 n2 c2) := (HX3.out.cell 2).trans HCS.out.2.2
          have HGC := Lib.hid (ref13_go X s (accAt ks (k + 1)) A1 A2 Av n1 c1 n2 c2 na cv W2b (HSA.out W2b HB3.out) (by simp only [maxLen]; omega) HTD.out)
          rw [goRef_same] at HGC
          go_wp2_with fail
          refine HGC.out.mono ?_
          rintro e w5 ⟨⟨A5, n5, c5, rfl, hr5⟩, hb5⟩
          obtain ⟨x, f1, f2, hg⟩ : ∃ x f1 f2, goI s (accAt ks (k + 1)) = (x, (f1, f2)) := ⟨_, _, _, rfl⟩
          rw [hg] at hr5 HGO ⊢
          dsimp only at hr5 HGO ⊢
          have hba := (Below.refl w5.heap.size w5).alloc (Nat.le_refl _) (.cells #[.int .i64 f1, .int .i64 f2] 28)
          have hbb := hb5.trans (hba.mono hb5.size)
          have HS5 := Lib.hid (HS3.out.go hbb)
          have HX5 := Lib.hid (Blk.below HX3.out hbb HX3.out.lt)
          have HY5 := Lib.hid (Blk.below HY3.out hbb HY3.out.lt)
          have HB5 := Lib.hid (HB3.out.trans (hbb.mono HB3.out.size))
          have HQ5 := Lib.hid (Blk.new w5 28 #[.int .i64 f1, .int .i64 f2])
          have hlo5 := HB3.out.size
          have HR5 := Lib.hid ((hr5.keep (X' := ShX w.heap.size (.slice none 0 0) (.slice Ao k co)) (Keeps.refl (fun b hb => ⟨Nat.le_trans hlo5 hb, fun e => by have := (own_lt HS3.out.o9 e).2; omega, fun e => by have := (own_lt HS3.out.o10 e).2; omega⟩))).keep (Keeps.any hba))
          have hw5 : w.heap.size + 1 < w5.heap.size := Nat.lt_of_lt_of_le HY3.out.lt hb5.size
          clear hr5 hba hbb hb5 HGC hx0 hx1 hx2 hg
          go_upto_region 13 with fail
          generalize hW5 : w5.alloc (.cells #[.int .i64 f1, .int .i64 f2] 28) = W5 at *
          have hw55 : w5.heap.size < W5.heap.size := HQ5.out.lt
          clear hW5
          have q0 := HQ5.out.cell 0
          have q1 := HQ5.out.cell 1
          by_cases hf : f1 = 0
          · subst hf
            have HGN := Lib.hid (HGO.out.trans (if_neg (fun h => h rfl)))
            have hbn := (Below.refl W5.heap.size W5).alloc (Nat.le_refl _) (.cells #[.slice A5 n5 c5] 23)
            have HS6 := Lib.hid (HS5.out.go hbn)
            have HX6 := Lib.hid (Blk.below HX5.out hbn HX5.out.lt)
            have HY6 := Lib.hid (Blk.below HY5.out hbn HY5.out.lt)
            have HB6 := Lib.hid (HB5.out.trans (hbn.mono HB5.out.size))
            have HR6 := Lib.hid (HR5.out.keep (Keeps.any hbn))
            have HN6 := Lib.hid (Rd.new W5 23 1 1 [.slice A5 n5 c5] rfl)
            have H1C := Lib.hid (show ∀ u ∈ [Value.slice A5 n5 c5], u.oneCell' = true by intro u hu; simp at hu; subst hu; rfl)
            clear hbn
            go_wp2_with (at_builtin; refine wpList_append_rd _ rfl (.tmp 56) (.tmp 58) 59 rfl w.heap.size 23 i1 _ 1 24 Try.underlying59 hi1 y0' y1' y2' rfl (by decide) _ k _ rfl HS6.out.o10 _ (some ⟨W5.heap.size, 0, none⟩) 1 1 [.slice A5 n5 c5] rfl HN6.out H1C.out (by simp only [maxLen]; omega) (by omega) HB6.out.size ?_)
            intro v10' w7 happ
            have HS7 := Lib.hid (HS6.out.push HR6.out happ)
            have HX7 := Lib.hid (blk_app HX6.out HS6.out.o10 (by decide) happ)
            have HY7 := Lib.hid (blk_app HY6.out HS6.out.o10 (by decide) happ)
            have HB7 := Lib.hid (HB6.out.trans (happ.below HB6.out.size HS6.out.o10))
            clear happ
            go_wp2_with fail
            exact ⟨⟨k + 1, outs ++ [x], _, by omega, by go_num, HGI2.out.symm.trans HGN.out, HS7.out, HX7.out, HY7.out, HB7.out⟩, by simp [intOf]; omega⟩
          · have HG := Lib.hid (HGO.out.trans (if_pos hf))
            have y0 := HY5.out.cell 0
            have y1 := HY5.out.cell 1
            have g0 := HY5.out.frozen 0
            have g1 := HY5.out.frozen 1
            have hne1 : ¬ w.heap.size + 1 = w5.heap.size := by omega
            have hne2 : ¬ w5.heap.size = w.heap.size + 1 := by omega
            go_upto_region 14 with fail
            go_region
            all_goals
              go_wp2_with fail
              rw [HG.out]
              exact bodyPost_ret (v := .tuple #[.slice none 0 0, .agg #[.int .i64 f1, .int .i64 k]]) (by simp [results, Try.results30, go_sem, y0, y1]) rfl ⟨ShPost.nil _ _ _ _, ((HB5.out.setCell (by simp) _).setCell (by simp) _).drew⟩
        · obtain rfl : k = nk := by omega
          have HG := Lib.hid (show showI s ks = (outs, (0, 0)) by rw [HGO.out, Nat.sub_self, showF])
          have y0 := HYS.out.cell 0
          have y1 := HYS.out.cell 1
          have g0 := HYS.out.frozen 0
          have g1 := HYS.out.frozen 1
          have q1 := own_setCell_ne (i := 0) (u := .int .i64 0) hst.o10 HYS.out (by decide)
          have q2 := own_setCell_ne (i := 1) (u := .int .i64 0) q1 (HYS.out.put 0 _) (by decide)
          have HRF := Lib.hid (RdX.of_own (X := fun b => w.heap.size ≤ b) q2 (fun b hb => (own_lt q2 hb).1))
          have HLN := Lib.hid hst.len
          have HRD := Lib.hid (show RunsAt ((wr.setCell ⟨w.heap.size + 1, 0, none⟩ (.int .i64 0)).setCell ⟨w.heap.size + 1, 1, none⟩ (.int .i64 0)) (fun b => w.heap.size ≤ b) outs us from by
            have e0 : wr.setCell ⟨w.heap.size + 1, 0, none⟩ (.int .i64 0) = wr := set_same HYS.out 0 rfl
            have e1 : wr.setCell ⟨w.heap.size + 1, 1, none⟩ (.int .i64 0) = wr := set_same HYS.out 1 rfl
            rw [e0, e1]
            exact hst.rd.keep (Keeps.refl (fun _ h => h.1)))
          clear hst q1 q2
          go_wp2_with fail
          rw [HG.out]
          exact bodyPost_ret (v := .tuple #[.slice Ao k co, .agg #[.int .i64 0, .int .i64 0]]) (by simp [results, Try.results30, go_sem, y0, y1]) rfl ⟨⟨Ao, k, co, us, rfl, HLN.out, HRF.out, HRD.out⟩, (HB.out.setCell (by simp) _).setCell (by simp) _⟩
    · have HG := Lib.hid (HGI1.out.trans (if_pos hz))
      have y0 := HY4.out.cell 0
      have y1 := HY4.out.cell 1
      have g0 := HY4.out.frozen 0
      have g1 := HY4.out.frozen 1
      have hne1 : ¬ w.heap.size + 1 = w3.heap.size := by omega
      have hne2 : ¬ w3.heap.size = w.heap.size + 1 := by omega
      go_upto_region 6 with fail
      go_region
      all_goals
        go_wp2_with fail
        rw [HG.out]
        exact bodyPost_ret (v := .tuple #[.slice none 0 0, .agg #[.int .i64 e1, .int .i64 e2]]) (by simp [results, Try.results30, go_sem, y0, y1]) rfl ⟨ShPost.nil _ _ _ _, ((HB4.out.setCell (by simp) _).setCell (by simp) _).drew⟩
  · have HG := Lib.hid (HGI.out.trans (if_pos hz))
    have y0 := HY2.out.cell 0
    have y1 := HY2.out.cell 1
    have g0 := HY2.out.frozen 0
    have g1 := HY2.out.frozen 1
    have hne1 : ¬ w.heap.size + 1 = w1.heap.size := by omega
    have hne2 : ¬ w1.heap.size = w.heap.size + 1 := by omega
    go_upto_region 3 with fail
    go_region
    all_goals
      go_wp2_with fail
      rw [HG.out]
      exact bodyPost_ret (v := .tuple #[.slice none 0 0, .agg #[.int .i64 r1, .int .i64 r2]]) (by simp [results, Try.results30, go_sem, y0, y1]) rfl ⟨ShPost.nil _ _ _ _, ((HB2.out.setCell (by simp) _).setCell (by simp) _).drew⟩

end Go.Proofs.Ytfmebbnccjaadaa
