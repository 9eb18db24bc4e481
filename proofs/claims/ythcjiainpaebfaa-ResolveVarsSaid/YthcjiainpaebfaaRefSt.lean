/- Where scriptref6.Ready stands: its passes, of which the last one may still grow; the maps of literals. -/
import Derived.Test.YthcjiainpaebfaaReadyEnd
namespace Go.Proofs.Ythcjiainpaebfaa
open Go.RowKit Go.Maps

theorem rule_cursors {p : PartD} (h : partP p = 0) (hk : p.kind = 2) : -1 ≤ p.left.cursor ∧ -1 ≤ p.right.cursor := by
  have side : ∀ (s : SideD) (m : Bool), sideP s m = 0 → -1 ≤ s.cursor := by
    intro s m hs
    unfold sideP at hs
    by_cases h0 : itemsAll [s.before, s.source, s.after] = 0
    · rw [if_pos h0] at hs
      by_cases h1 : s.cursor < -1 ∨ (s.source.length : Int) < s.cursor
      · rw [if_pos h1] at hs; cases hs
      · omega
    · rw [if_neg h0] at hs; exact absurd hs h0
  unfold partP at h
  rw [hk, if_neg (by decide), if_neg (by decide), if_neg (by decide), if_pos rfl] at h
  unfold ruleP at h
  by_cases hd : p.dir < 1 ∨ 3 < p.dir
  · rw [if_pos hd] at h; cases h
  rw [if_neg hd] at h
  by_cases hl : sideP p.left (p.dir != 2) = 0
  · rw [if_pos hl] at h
    by_cases hr : sideP p.right (p.dir != 1) = 0
    · exact ⟨side _ _ hl, side _ _ hr⟩
    · rw [if_neg hr] at h; exact absurd h hr
  · rw [if_neg hl] at h; exact absurd h hl

/-- The row vp holds the passes P and one pass more, without a name, whose rules A stand in the row va. -/
def OpD (B lo : Nat) (va : Value) (A : List RuleD) (P : List PassD) (vp : Value) (wx : World) : Prop :=
  OwnL (RuleC wx (Rows4 B lo va (.slice none 0 0) vp (.slice none 0 0))) 59 7 wx lo va A ∧
  ∃ css : List (List Value), css.length = P.length ∧ (∀ (i : Nat) (a : PassD) (cs : List Value), P[i]? = some a → css[i]? = some cs → PassC wx (Rows4 B lo va (.slice none 0 0) vp (.slice none 0 0)) a cs) ∧ (∀ cs ∈ css, cs.length = 2) ∧
    wx.ownsRow lo 55 2 vp (P.length + 1) (css.flatten ++ [.string ⟨#[]⟩, va])
abbrev ClD (B lo : Nat) (P : List PassD) (vp : Value) (wx : World) : Prop := RySt B lo [] [] P [] (.slice none 0 0) (.slice none 0 0) vp (.slice none 0 0) wx
section
variable {B lo g i : Nat} {va vp v' u : Value} {A : List RuleD} {P : List PassD} {wx w2 w9 : World}
theorem flat2 {css : List (List Value)} (h : ∀ cs ∈ css, cs.length = 2) : css.flatten.length = css.length * 2 := by
  induction css with
  | nil => rfl
  | cons a l ih =>
    rw [List.flatten_cons, List.length_append, ih (fun x hx => h x (by simp [hx])), h a (by simp), List.length_cons]
    omega
theorem OpD.kept (hk : Keeps wx (Rows4 B lo va (.slice none 0 0) vp (.slice none 0 0)) w2 (Rows4 B lo va (.slice none 0 0) vp (.slice none 0 0))) (ho : ∀ (e : TypeId) (sz n : Nat) (v : Value) (xs : List Value), wx.ownsRow lo e sz v n xs → w2.ownsRow lo e sz v n xs)
    (h : OpD B lo va A P vp wx) : OpD B lo va A P vp w2 := by
  obtain ⟨h1, css, h2, h3, h4, h5⟩ := h
  exact ⟨h1.kept (ho _ _ · _ ·) (fun _ _ => RuleC.keep hk), css, h2, fun i a cs x y => (h3 i a cs x y).keep hk, h4, ho _ _ _ _ _ h5⟩
theorem OpD.below (h : OpD B lo va A P vp wx) (hb : Below wx.heap.size wx w2) : OpD B lo va A P vp w2 :=
  OpD.kept (Keeps.below hb (fun _ h _ => h)) (fun _ _ _ _ _ h => own_below h hb) h
theorem OpD.set (h : OpD B lo va A P vp wx) (h1 : B ≤ g) (h2 : g < lo) : OpD B lo va A P vp (wx.setCell ⟨g, i, none⟩ u) :=
  OpD.kept (Keeps.setCell u (fun b hb => by rcases hb with h | h <;> dsimp only <;> omega) (fun _ h _ => h)) (fun _ _ _ _ _ h => own_set_lt h h2) h
theorem OpD.form (h : OpD B lo va A P vp wx) : ∃ g c Aa ca, vp = .slice (some ⟨g, 0, none⟩) (P.length + 1) c ∧ lo ≤ g ∧ g < wx.heap.size ∧ va = .slice Aa A.length ca := by
  obtain ⟨h1, css, _, _, _, h5⟩ := h
  obtain ⟨g, c, hv, _, hg1, hg2⟩ := own_some h5 (by omega)
  obtain ⟨Aa, ca, hva, _⟩ := h1.form
  exact ⟨g, c, Aa, ca, hv, hg1, hg2, hva⟩
/-- The growing pass is done. -/
theorem OpD.shut (h : OpD B lo va A P vp wx) (hA : A ≠ []) (hl : A.length ≤ maxLen) : ClD B lo (P ++ pend A) vp wx := by
  obtain ⟨h1, css, h2, h3, h4, h5⟩ := h
  obtain ⟨Aa, ca, rfl, _⟩ := h1.form
  have hk : Keeps wx (Rows4 B lo (.slice Aa A.length ca) (.slice none 0 0) vp (.slice none 0 0)) wx (Rows4 B lo (.slice none 0 0) (.slice none 0 0) vp (.slice none 0 0)) := Keeps.refl (fun _ h => h.imp id (fun ⟨g1, _, g3⟩ => ⟨g1, by simp [Value.ownBlock], g3⟩))
  have hpe : pend A = [⟨⟨#[]⟩, A⟩] := by
    cases A with
    | nil => exact absurd rfl hA
    | cons x r => rfl
  rw [hpe]
  have hne : ∀ b, (Value.slice Aa A.length ca).ownBlock = some b → vp.ownBlock ≠ some b := by
    intro b hb
    obtain ⟨c1, _, _, _, o1⟩ := h1
    rcases o1.2 with ⟨hv, _⟩ | ⟨g, cap, cur, hv, _, hg, _⟩
    · rw [hv] at hb; simp [Value.ownBlock] at hb
    · rw [hv] at hb
      simp only [Value.ownBlock, Option.some.injEq] at hb
      subst hb
      exact own_ne_blk' h5 hg (by decide)
  have hown : ∀ b, (Value.slice Aa A.length ca).ownBlock = some b → lo ≤ b := by
    intro b hb
    obtain ⟨c1, _, _, _, o1⟩ := h1
    exact (own_lt o1 hb).1
  have hlast : PassC wx (Rows4 B lo (.slice none 0 0) (.slice none 0 0) vp (.slice none 0 0)) ⟨⟨#[]⟩, A⟩ [.string ⟨#[]⟩, .slice Aa A.length ca] :=
    ⟨_, rfl, Aa, A.length, ca, rfl, OwnL.done h1 (fun _ _ => RuleC.keep hk) (fun b hb => .inr ⟨hown b hb, by simp [Value.ownBlock], by simp [Value.ownBlock], hne b hb, by simp [Value.ownBlock]⟩), hl⟩
  refine ⟨OwnL.nil _ _, OwnL.nil _ _, ⟨css ++ [[.string ⟨#[]⟩, .slice Aa A.length ca]], by simp [h2], ?_, ?_, ?_⟩, OwnL.nil _ _, fun b hb => by simp [Value.ownBlock] at hb, fun b _ hc => by simp [Value.ownBlock] at hc⟩
  · intro j x ds hx hd
    rcases Nat.lt_or_ge j P.length with hj | hj
    · rw [List.getElem?_append_left hj] at hx
      rw [List.getElem?_append_left (by omega)] at hd
      exact (h3 j x ds hx hd).keep hk
    · rw [List.getElem?_append_right hj] at hx
      rw [List.getElem?_append_right (by omega), h2] at hd
      have hj0 : j - P.length = 0 := by
        have := (List.getElem?_eq_some_iff.1 hx).1
        simp at this
        omega
      rw [hj0] at hx hd
      simp at hx hd
      subst hx hd
      exact hlast
  · intro ds hd
    rcases List.mem_append.1 hd with hd | hd
    · exact h4 ds hd
    · simp at hd; subst hd; rfl
  · have e : (css ++ [[Value.string ⟨#[]⟩, .slice Aa A.length ca]]).flatten = css.flatten ++ [.string ⟨#[]⟩, .slice Aa A.length ca] := by simp
    rw [e, List.length_append, List.length_singleton]
    exact h5
/-- A pass without rules is begun. -/
theorem ClD.start (hBl : B ≤ lo) {css : List (List Value)} {t : TypeId} (h1 : css.length = P.length)
    (h2 : ∀ (i : Nat) (a : PassD) (cs : List Value), P[i]? = some a → css[i]? = some cs → PassC wx (Rows4 B lo (.slice none 0 0) (.slice none 0 0) vp (.slice none 0 0)) a cs) (h3 : ∀ cs ∈ css, cs.length = 2) (h4 : wx.ownsRow lo 55 2 vp P.length css.flatten)
    (ha : Appended lo 55 2 vp (wx.alloc (.cells #[.string ⟨#[]⟩, .slice none 0 0] t)) (P.length + 1) (css.flatten ++ [.string ⟨#[]⟩, .slice none 0 0]) v' w9) : OpD B lo (.slice none 0 0) [] P v' w9 := by
  have hk := keeps_pushP (va := .slice none 0 0) (vb := .slice none 0 0) (vq := .slice none 0 0) hBl h4 ha
  exact ⟨OwnL.nil _ _, css, h1, fun i a cs x y => (h2 i a cs x y).keep hk, h3, ha.own⟩
/-- One rule more in the growing pass. -/
theorem OpD.grow (hBl : B ≤ lo) {cap : Nat} {r : RuleD} {cs : List Value} {t : TypeId} {cssA css : List (List Value)} (a1 : cssA.length = A.length)
    (a2 : ∀ (i : Nat) (a : RuleD) (cs : List Value), A[i]? = some a → cssA[i]? = some cs → RuleC wx (Rows4 B lo va (.slice none 0 0) (.slice (some ⟨g, 0, none⟩) (P.length + 1) cap) (.slice none 0 0)) a cs) (a3 : ∀ cs ∈ cssA, cs.length = 7) (a4 : wx.ownsRow lo 59 7 va A.length cssA.flatten)
    (h1 : css.length = P.length) (h2 : ∀ (i : Nat) (a : PassD) (cs : List Value), P[i]? = some a → css[i]? = some cs → PassC wx (Rows4 B lo va (.slice none 0 0) (.slice (some ⟨g, 0, none⟩) (P.length + 1) cap) (.slice none 0 0)) a cs) (h3 : ∀ cs ∈ css, cs.length = 2)
    (h4 : wx.ownsRow lo 55 2 (.slice (some ⟨g, 0, none⟩) (P.length + 1) cap) (P.length + 1) (css.flatten ++ [.string ⟨#[]⟩, va]))
    (hp : RuleC wx (Rows4 B lo va (.slice none 0 0) (.slice (some ⟨g, 0, none⟩) (P.length + 1) cap) (.slice none 0 0)) r cs) (hcs : cs.length = 7)
    (ha : Appended lo 59 7 va (wx.alloc (.cells cs.toArray t)) (A.length + 1) (cssA.flatten ++ cs) v' w9) :
    OpD B lo v' (A ++ [r]) P (.slice (some ⟨g, 0, none⟩) (P.length + 1) cap) (w9.setCell ⟨g, P.length * 2 + 1, none⟩ v') ∧ w9.cell? ⟨g, P.length * 2 + 1, none⟩ = some va ∧ w9.frozen? ⟨g, P.length * 2 + 1, none⟩ = false := by
  have hk := keeps_pushA (vb := .slice none 0 0) (vp := .slice (some ⟨g, 0, none⟩) (P.length + 1) cap) (vq := .slice none 0 0) hBl a4 ha
  have h4a := World.ownsRow.alloc h4 (.cells cs.toArray t)
  have h9 := kept_row h4a ha (ne_of_types h4a (World.ownsRow.alloc a4 _) (by decide))
  have hk2 : Keeps w9 (Rows4 B lo v' (.slice none 0 0) (.slice (some ⟨g, 0, none⟩) (P.length + 1) cap) (.slice none 0 0)) (w9.setCell ⟨g, P.length * 2 + 1, none⟩ v') (Rows4 B lo v' (.slice none 0 0) (.slice (some ⟨g, 0, none⟩) (P.length + 1) cap) (.slice none 0 0)) := by
    have hg := (own_lt h9 (b := g) rfl).1
    refine Keeps.setCell _ (fun b hb => ?_) (fun _ h _ => h)
    rcases hb with hb | hb
    · dsimp only; omega
    · intro e
      dsimp only at e
      exact hb.2.2.2.1 (by rw [e]; rfl)
  have hst := (World.ownsRow.stored h9 (P.length * 2 + 1) v').1
  have e1 : (css.flatten ++ [.string ⟨#[]⟩, va]).set (P.length * 2 + 1) v' = css.flatten ++ [.string ⟨#[]⟩, v'] := by
    rw [List.set_append_right _ _ (by rw [flat2 h3, h1]; omega), flat2 h3, h1]
    have : P.length * 2 + 1 - P.length * 2 = 1 := by omega
    rw [this]
    rfl
  rw [e1] at hst
  have hnb : v'.ownBlock ≠ some g := by
    have ho := ha.own
    intro e
    rcases ho.2 with ⟨hv, _⟩ | ⟨g', cap', cur, hv, _, hg, _⟩
    · rw [hv] at e; simp [Value.ownBlock] at e
    · rw [hv] at e
      simp only [Value.ownBlock, Option.some.injEq] at e
      subst e
      exact own_ne_blk' h9 hg (by decide) rfl
  have hown := OwnL.push a1 a2 a3 (fun _ _ => RuleC.keep hk) (hp.keep hk) hcs ha
  refine ⟨⟨?_, css, h1, fun i a cs x y => ((h2 i a cs x y).keep hk).keep hk2, h3, hst⟩, ?_, World.ownsRow.frozenAt h9 _⟩
  · refine OwnL.kept (fun n xs ho => ?_) (fun _ _ => RuleC.keep hk2) hown
    refine World.ownsRow.kept ho (World.ownsRow.stored h9 (P.length * 2 + 1) v').2 (.inr hnb)
  · have := World.ownsRow.cells h9 (g := g) rfl (P.length * 2 + 1) va (by rw [List.getElem?_append_right (by rw [flat2 h3, h1]; omega), flat2 h3, h1, show P.length * 2 + 1 - P.length * 2 = 1 by omega]; rfl)
    rwa [add_at, Nat.zero_add] at this
end

/-! ### The map of the names of passes -/
theorem wpList_insert_own {H : Type} {P : Program} (w : World) {ops : Array Oper} {rest : List Oper} {o : Oper} {a : Act} {Q : Exit → Act → World → Prop}
    (hg : o.guard = none) (m x v : Operand) (t : TypeId) (hop : o.op = Op.insert t m x v)
    (k e : TypeId) (K : Keyed P k) (ht : P.underlying t = some (.map k e)) (R : Value → Option (DataW H × List MemPlace)) (b n : Nat) (D : DataW H)
    (hm : a.eval m = .map (some b)) (hown : w.ownsMap P k R b n D) (hn : n < maxLen) (key val : Value) (kl : Lit) (hx : a.eval x = key) (hv : a.eval v = val) (hkey : keyOf P k key = some kl)
    (d : DataW H) (ps : List MemPlace) (hval : R val = some (d, ps))
    (hK : ∀ w', w'.ownsMap P k R b (n + 1) (D.put kl d) → w.grownBy w' (some b) → wpList P ops Q rest (a.put o.dst undef) w') :
    wpList P ops Q (o :: rest) a w := by
  refine wpList_plain hg fun K' hK' => ?_
  obtain ⟨w', hrun, r1, r2⟩ := hown.update K ht hn hkey hval
  unfold Oper.wp
  simp [execOp, hop, hm, hx, hv, hrun, Result.andThen]
  exact hK' _ _ (hK w' r1 r2)
theorem wpList_look_raw {w : World} {ops : Array Oper} {rest : List Oper} {o : Oper} {a : Act} {Q : Exit → Act → World → Prop} (hg : o.guard = none) (m x : Operand) (t e : TypeId) (hop : o.op = Op.lookup t m x false) (ht : Try.prog.underlying t = some (.map 9 e))
    {z : Value} (hz : (zeroValue e).run Try.prog w = .ok z w) (b n : Nat) (D : DataW Value) (hm : a.eval m = .map (some b)) (hown : w.ownsMap Try.prog 9 Raw b n D) (s : ByteArray) (hx : a.eval x = .string s) (hs : s.size ≤ maxLen) (u : Value)
    (h1 : D.atKey (keyL s) (.held z) = .held u) (hK : wpList Try.prog ops Q rest (a.put o.dst u) w) : wpList Try.prog ops Q (o :: rest) a w := by
  refine wpList_plain hg fun K' hK' => ?_
  obtain ⟨v, ps, hrun, hv⟩ := hown.lookup key_law ht hz (zd := .held z) (zp := []) rfl (key_of hs)
  rw [h1] at hv
  unfold Raw at hv
  injection hv with hv
  injection hv with hv
  injection hv with hv
  subst hv
  unfold Oper.wp
  simp [execOp, hop, hm, hx, hrun, Result.andThen]
  exact hK' _ _ hK
def invMap : DataW Value := ((((DataW.map []).put (keyL nmUpper) (.held (.string nmLower))).put (keyL nmLower) (.held (.string nmUpper))).put (keyL nmNull) (.held (.string nmNull))).put (keyL nmRemove) (.held (.string nmNull))
theorem pass_names {s : ByteArray} (h : passB s = true) : s = nmLower ∨ s = nmNull ∨ s = nmRemove ∨ s = nmUpper := by
  unfold passB at h
  simp only [one_cons, str_eq, Bool.or_eq_true, decide_eq_true_eq] at h
  rcases h with h | h | h | h | h
  · exact .inl h
  · exact .inr (.inl h)
  · exact .inr (.inr (.inl h))
  · exact .inr (.inr (.inr h))
  · cases h
theorem nm_ne : nmLower ≠ nmUpper ∧ nmNull ≠ nmUpper ∧ nmNull ≠ nmLower ∧ nmRemove ≠ nmUpper ∧ nmRemove ≠ nmLower ∧ nmRemove ≠ nmNull := by
  refine ⟨?_, ?_, ?_, ?_, ?_, ?_⟩ <;> (intro e; have := congrArg (fun b : ByteArray => b.data) e; revert this; decide)
theorem inv_at {s : ByteArray} (h : passB s = true) (z : DataW Value) : invMap.atKey (keyL s) z = .held (.string (inverseP s)) := by
  obtain ⟨e1, e2, e3, e4, e5, e6⟩ := nm_ne
  have kn : ∀ {a b : ByteArray}, a ≠ b → keyL a ≠ keyL b := fun h e => h (keyL_inj e)
  have m1 : IsMap ((DataW.map [] : DataW Value).put (keyL nmUpper) (.held (.string nmLower))) := isMap_empty.put _ _
  have m2 := m1.put (keyL nmLower) (.held (.string nmUpper))
  have m3 := m2.put (keyL nmNull) (.held (.string nmNull))
  unfold invMap
  rcases pass_names h with rfl | rfl | rfl | rfl
  · rw [atKey_put_other (kn e5.symm), atKey_put_other (kn e3.symm), atKey_put_same m1 (keyL_is _)]
    unfold inverseP
    rw [if_neg e1, if_pos rfl]
  · rw [atKey_put_other (kn e6.symm), atKey_put_same m2 (keyL_is _)]
    unfold inverseP
    rw [if_neg e2, if_neg e3]
  · rw [atKey_put_same m3 (keyL_is _)]
    unfold inverseP
    rw [if_neg e4, if_neg e5]
  · rw [atKey_put_other (kn e4.symm), atKey_put_other (kn e2.symm), atKey_put_other (kn e1.symm), atKey_put_same isMap_empty (keyL_is _)]
    unfold inverseP
    rw [if_pos rfl]

end Go.Proofs.Ythcjiainpaebfaa
