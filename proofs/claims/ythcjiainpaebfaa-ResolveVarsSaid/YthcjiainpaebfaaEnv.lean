/- The map of names and their sets: what a look-up tells, what a store leaves. slices.Clone of a set. -/
import Derived.Test.YthcjiainpaebfaaSetsRef
import Derived.Maps.OwnSet
import Derived.StringKeys
namespace Go.Proofs.Ythcjiainpaebfaa
open Go.RowKit Go.Maps

/-- A map's element as it stands. -/
def Raw (v : Value) : Option (DataW Value × List MemPlace) := some (.held v, [])
def nilH : DataW Value := .held (.slice none 0 0)
def keyL (s : ByteArray) : Lit := .string s.data.toList
theorem keyL_inj {s t : ByteArray} (h : keyL s = keyL t) : s = t := by
  unfold keyL at h
  injection h with h
  exact ByteArray.ext (Array.ext' h)
theorem keyL_is (s : ByteArray) : WideAt.IsKeyLit (keyL s) := by simp [keyL, WideAt.IsKeyLit]
theorem key_of {s : ByteArray} (hs : s.size ≤ maxLen) : keyOf Try.prog 9 (.string s) = some (keyL s) := WideMaps.keyOf_string_mk Try.underlying9 hs
theorem key_law : Keyed Try.prog 9 := string_keyed Try.underlying9
theorem zeroSet (w : World) : (zeroValue 23).run Try.prog w = .ok (.slice none 0 0) w := by kernel_rfl

/-- Block mb is a map of the variables among the parts l. -/
def EnvM (w : World) (X : Nat → Prop) (mb n : Nat) (l : List PartD) : Prop :=
  ∃ D : DataW Value, w.ownsMap Try.prog 9 Raw mb n D ∧ IsMap D ∧ ∀ s : ByteArray, match lookP l s with
    | some set => ∃ u, D.atKey (keyL s) nilH = .held u ∧ has D (keyL s) = true ∧ SetV w X set u
    | none => D.atKey (keyL s) nilH = nilH ∧ has D (keyL s) = false
theorem EnvM.keep {w w' : World} {X X' : Nat → Prop} {mb n : Nat} {l : List PartD} (hk : Keeps w X w' X') (hm : w'.heap[mb]? = w.heap[mb]?) (h : EnvM w X mb n l) : EnvM w' X' mb n l := by
  obtain ⟨D, ⟨es, clock, h1, h2⟩, h3, h4⟩ := h
  refine ⟨D, ⟨es, clock, hm.trans h1, h2⟩, h3, fun s => ?_⟩
  have := h4 s
  cases hl : lookP l s with
  | none => rw [hl] at this; exact this
  | some set =>
    rw [hl] at this
    obtain ⟨u, g1, g2, g3⟩ := this
    exact ⟨u, g1, g2, g3.keep hk⟩
theorem EnvM.lt {w : World} {X : Nat → Prop} {mb n : Nat} {l : List PartD} (h : EnvM w X mb n l) : mb < w.heap.size := by
  obtain ⟨D, h1, _⟩ := h
  exact h1.lt
theorem EnvM.made (w : World) (X : Nat → Prop) : EnvM (w.alloc (.map #[] 0)) X w.heap.size 0 [] :=
  ⟨.map [], World.ownsMap_made _ _ _ _, isMap_empty, fun s => ⟨by simp [DataW.atKey], by simp [has]⟩⟩
theorem lookP_snoc (l : List PartD) (p : PartD) (s : ByteArray) : lookP (l ++ [p]) s = match lookP l s with
    | some x => some x
    | none => if p.kind = 1 ∧ p.name = s then some p.set else none := by
  induction l with
  | nil => simp [lookP]
  | cons q l ih =>
    rw [List.cons_append, lookP, lookP]
    by_cases h : q.kind = 1 ∧ q.name = s
    · rw [if_pos h, if_pos h]
    · rw [if_neg h, if_neg h, ih]
theorem EnvM.put {w w' : World} {X : Nat → Prop} {mb n : Nat} {l : List PartD} {p : PartD} {u : Value} {D : DataW Value} (hD : IsMap D)
    (h4 : ∀ s : ByteArray, match lookP l s with
      | some set => ∃ u, D.atKey (keyL s) nilH = .held u ∧ has D (keyL s) = true ∧ SetV w X set u
      | none => D.atKey (keyL s) nilH = nilH ∧ has D (keyL s) = false)
    (hp : p.kind = 1) (hno : lookP l p.name = none) (hu : SetV w X p.set u) (hk : Keeps w X w' X)
    (hown : w'.ownsMap Try.prog 9 Raw mb n (D.put (keyL p.name) (.held u))) : EnvM w' X mb n (l ++ [p]) := by
  refine ⟨_, hown, hD.put _ _, fun s => ?_⟩
  rw [lookP_snoc]
  by_cases hs : p.name = s
  · subst hs
    rw [hno]
    dsimp only
    rw [if_pos ⟨hp, rfl⟩]
    exact ⟨u, atKey_put_same hD (keyL_is _) _ _, has_put_same hD (keyL_is _) _, hu.keep hk⟩
  · have hne : keyL s ≠ keyL p.name := fun e => hs (keyL_inj e).symm
    have := h4 s
    cases hl : lookP l s with
    | none =>
      rw [hl] at this
      dsimp only
      rw [if_neg (fun h => hs h.2), atKey_put_other hne, has_put_other hne]
      exact this
    | some set =>
      rw [hl] at this
      obtain ⟨v, g1, g2, g3⟩ := this
      dsimp only
      exact ⟨v, by rw [atKey_put_other hne]; exact g1, by rw [has_put_other hne]; exact g2, g3.keep hk⟩
theorem EnvM.other {w : World} {X : Nat → Prop} {mb n : Nat} {l : List PartD} {p : PartD} (h : EnvM w X mb n l) (hp : p.kind ≠ 1) : EnvM w X mb n (l ++ [p]) := by
  obtain ⟨D, h1, h2, h3⟩ := h
  refine ⟨D, h1, h2, fun s => ?_⟩
  have := h3 s
  rw [lookP_snoc]
  cases hl : lookP l s with
  | none => rw [hl] at this; dsimp only; rw [if_neg (fun h => hp h.1)]; exact this
  | some set => rw [hl] at this; exact this

/-- 'v, ok := m[k]', where what stands at the key is known. -/
theorem wpList_env {w : World} {ops : Array Oper} {rest : List Oper} {o : Oper} {a : Act} {Q : Exit → Act → World → Prop} (hg : o.guard = none) (m x : Operand) (hop : o.op = Op.lookup 65 m x true)
    (mb n : Nat) (D : DataW Value) (hm : a.eval m = .map (some mb)) (hown : w.ownsMap Try.prog 9 Raw mb n D) (s : ByteArray) (hx : a.eval x = .string s) (hs : s.size ≤ maxLen) (u : Value) (b : Bool)
    (h1 : D.atKey (keyL s) nilH = .held u) (h2 : has D (keyL s) = b) (hK : wpList Try.prog ops Q rest (a.put o.dst (.tuple #[u, .bool b])) w) : wpList Try.prog ops Q (o :: rest) a w :=
  wpList_lookup_own_ok w hg m x _ hop 9 23 key_law Try.underlying65 Raw (zeroSet w) nilH [] rfl mb n D hm hown (.string s) (keyL s) hx (key_of hs) (fun v ps hv => by
    rw [h1] at hv
    unfold Raw at hv
    injection hv with hv
    injection hv with hv
    injection hv with hv
    subst hv
    rw [h2]
    exact hK)

theorem infoSpan : (Try.prog.info? 69).map (fun i => (i.zero, i.size, i.bytes)) = some (some (.agg #[.int .i32 0, .int .i32 0]), 2, 8) := by kernel_rfl
theorem spanCells_one (l : Spans) : ∀ u ∈ spanCells l, u.oneCell' = true := by
  intro u hu
  simp only [spanCells, List.mem_flatMap] at hu
  obtain ⟨k, _, hu⟩ := hu
  simp at hu
  rcases hu with rfl | rfl <;> rfl

set_option maxRecDepth 100000 in
set_option maxHeartbeats 1600000 in
theorem clone_set (A : Option Addr) (n c B : Nat) (s : Spans) (w : World) (h : Rd w B 2 A n (spanCells s)) (hn : n ≤ 1000) :
    Calls Try.prog 25 #[.slice A n c] w fun e w' => (∃ u, e = .returned u ∧ SetV w' (fun b => w.heap.size ≤ b) s u) ∧ Below w.heap.size w w' := by
  obtain ⟨i0, hi, hz0, hz1, hz2⟩ := info_parts infoSpan
  have q22 : ∀ (w : World) (a : Option Addr) (n c n' c' : Nat), (binOp .eql 23 (.slice a n c) (.slice none n' c')).run Try.prog w = .ok (.bool a.isNone) w := fun w a n c n' c' => Lib.run_eql_slice_nil w _ _ a n c n' c' Try.underlying23
  have H := Lib.hid h
  clear h
  cases A with
  | none =>
    have hn0 : n = 0 := by
      rcases Nat.eq_zero_or_pos n with h0 | h0
      · exact h0
      · obtain ⟨_, _, e, _⟩ := H.out.2 h0
        cases e
    subst hn0
    go_enter Try.func25, Try.ntmps25
    go_wp2_with fail
    go_ret
    exact ⟨⟨_, rfl, none, 0, 0, rfl, ⟨H.out.1, fun h => absurd h (Nat.lt_irrefl 0)⟩, Nat.zero_le _⟩, Below.refl _ _⟩
  | some ad =>
    have HO := Lib.hid (own_empty w 69 2 w.heap.size w.heap.size rfl (Nat.le_refl _))
    have HB := Lib.hid ((Below.refl w.heap.size w).alloc (Nat.le_refl _) (.cells #[] 69))
    have HR := Lib.hid (Rd.more (Rd.below (B := min B w.heap.size) ⟨H.out.1, fun h => by
      obtain ⟨b, off, e, _, hc⟩ := H.out.2 h
      obtain ⟨u, hu⟩ : ∃ u, (spanCells s)[0]? = some u := ⟨_, List.getElem?_eq_getElem (by have := H.out.1; omega)⟩
      have hl := World.block_lt_of_cell? w _ (hc 0 u hu)
      exact ⟨b, off, e, by dsimp only at hl; omega, hc⟩⟩ (HB.out.mono (Nat.min_le_right _ _))) (Nat.le_refl _))
    go_enter Try.func25, Try.ntmps25
    go_wp2_with (at_builtin; refine wpList_append_rd _ rfl (.tmp 5) (.tmp 6) 23 rfl w.heap.size 69 i0 _ 2 8 Try.underlying23 hi hz0 hz1 hz2 rfl (by decide) _ _ _ rfl HO.out _ (some ad) n c (spanCells s) rfl HR.out (spanCells_one s) (by simp only [maxLen]; omega) (by omega) (by simp) ?_)
    intro v' w' happ
    have ho := happ.own
    obtain ⟨A2, c2, rfl, _⟩ := own_form ho
    have HB2 := Lib.hid (HB.out.trans (happ.below (by simp) HO.out))
    have HV := Lib.hid (show SetV w' (fun b => w.heap.size ≤ b) s (.slice A2 n c2) from ⟨A2, n, c2, rfl, RdX.of_own ho (fun b hb => (own_lt ho hb).1), by unfold maxLen; omega⟩)
    clear happ ho
    go_wp2_with fail
    go_ret
    exact ⟨⟨_, rfl, HV.out⟩, HB2.out⟩

end Go.Proofs.Ythcjiainpaebfaa
