/- What the walk of ResolveVars leans on: plain facts on the parts, the loop's relation. -/
import Derived.Test.YthcjiainpaebfaaVarsB
import Derived.Test.YthcjiainpaebfaaAlive
import Derived.Test.YthcjiainpaebfaaForth
import Derived.Deep.CutBlock
namespace Go.Proofs.Ythcjiainpaebfaa
open Go.RowKit Go.Maps

theorem set_self {w : World} {g i : Nat} {t : TypeId} {cs : Array Value} {v : Value} (h : Blk w g t cs) (hv : cs[i]? = some v) : w.setCell ⟨g, i, none⟩ v = w := by
  have e0 : cs.setIfInBounds i v = cs := by
    apply Array.ext_getElem?
    intro k
    rw [Array.getElem?_setIfInBounds]
    by_cases hk : i = k
    · subst hk
      rw [if_pos rfl, hv, if_pos (Array.getElem?_eq_some_iff.1 hv).1]
    · rw [if_neg hk]
  have e : (w.setCell ⟨g, i, none⟩ v).heap = w.heap := by
    unfold World.setCell
    apply Array.ext_getElem?
    intro k
    simp only [Array.getElem?_modify]
    by_cases hk : g = k
    · subst hk
      unfold Blk at h
      rw [if_pos rfl, h]
      simp [e0]
    · rw [if_neg hk]
  have e2 : w.setCell ⟨g, i, none⟩ v = { w with heap := (w.setCell ⟨g, i, none⟩ v).heap } := rfl
  rw [e2, e]
theorem ready_ok_facts {back : Bool} {l : List PartD} (h : (readyP back l).2.1 = 0) : (fileP l).1 = 0 ∧ (readyP back l).2 = (0, 0) ∧ ∃ s, uptoP back l l.length = .ok s := by
  by_cases hw : (fileP l).1 = 0
  · cases hu : uptoP back l l.length with
    | error e =>
      have hr := readyP_error hw (Nat.le_refl _) hu
      rw [hr] at h
      exact absurd h (upto_code hu)
    | ok s => exact ⟨hw, by rw [readyP_ok hw hu], s, rfl⟩
  · rw [readyP_wrong hw] at h
    exact absurd h hw
theorem ready_names {back : Bool} {l : List PartD} (h : (readyP back l).2.1 = 0) : ∀ (k : Nat) (p : PartD), l[k]? = some p → p.kind = 1 → lookP (l.take k) p.name = none := by
  obtain ⟨hw, _, s, hu⟩ := ready_ok_facts h
  intro k p hp h1
  have hk : k < l.length := (List.getElem?_eq_some_iff.1 hp).1
  obtain ⟨t, h2, _⟩ := ready_vars_k hw hu k (by omega)
  obtain ⟨u, h3, _⟩ := ready_vars_k hw hu (k + 1) (by omega)
  rw [uptoP_step h2 hp] at h3
  unfold stepP at h3
  rw [if_pos h1] at h3
  cases hl : lookP (l.take k) p.name with
  | none => rfl
  | some x => rw [hl] at h3; cases h3
theorem vars_snoc {l : List PartD} {k : Nat} {p : PartD} (hp : l[k]? = some p) : (varsP l).take (k + 1) = (varsP l).take k ++ [varD (l.take k) p] := take_snoc (vars_at hp)
theorem had_next {l : List PartD} {k : Nat} {p : PartD} (hp : l[k]? = some p) (h2 : p.kind = 2) : hadP (l.take (k + 1)) = hadP (l.take k) := by
  funext s
  unfold hadP
  rw [lookP_take hp]
  cases lookP (l.take k) s with
  | some x => rfl
  | none => dsimp only; rw [if_neg (by omega)]
theorem varD_2 {L : List PartD} {p : PartD} (h : p.kind = 2) : varD L p = ⟨p.kind, ⟨#[]⟩, [], p.dir, putS (hadP L) (bareS p.left), putS (hadP L) (bareS p.right)⟩ := by unfold varD; rw [if_pos h]
theorem varD_no {L : List PartD} {p : PartD} (h : p.kind ≠ 2) : varD L p = bareD p := by unfold varD; rw [if_neg h]
theorem bare_kind (p : PartD) : (bareD p).kind = p.kind := rfl

/-- The blocks that stood at the loop's head, but the map's. -/
def X1 (mb lo : Nat) (b : Nat) : Prop := b ≠ mb ∧ b < lo
/-- These, and those made since, but the row at hand. -/
def VX (mb lo : Nat) (m : Value) (b : Nat) : Prop := X1 mb lo b ∨ (lo ≤ b ∧ m.ownBlock ≠ some b)
def VwRel (w V : World) (mb : Nat) (l : List PartD) (n : Nat) (m i : Value) (wr : World) : Prop :=
  ∃ (k N : Nat), k ≤ n ∧ N ≤ k ∧ i = .int .i64 k ∧ OwnL (PartX wr (VX mb V.heap.size m)) 40 16 wr V.heap.size m ((varsP l).take k) ∧ EnvM wr (X1 mb V.heap.size) mb N (l.take k) ∧
    Keeps V (· ≠ mb) wr (X1 mb V.heap.size) ∧ Below w.heap.size w wr ∧ V.heap.size ≤ wr.heap.size
theorem vx_app {mb lo sz n0 m : Nat} {e : TypeId} {v v' : Value} {xs ys : List Value} {w w2 : World} (ho : w.ownsRow lo e sz v n0 xs) (ha : Appended lo e sz v w m ys v' w2) : Keeps w (VX mb lo v) w2 (VX mb lo v') := by
  refine Keeps.app ha (fun b hb => ?_) (fun b hb hl => ?_)
  · rcases hb with h | h
    · intro e
      have := (own_lt ho e).1
      have := h.2
      omega
    · exact h.2
  · rcases hb with h | h
    · exact .inl h
    · refine .inr ⟨h.1, ?_⟩
      rcases ha.2.2 with e | e
      · rw [e]; exact h.2
      · rw [e]
        intro h
        injection h with h
        omega

/-- The map, the variable that holds it, the variable that holds the closure put. -/
abbrev hadW (W : World) : World := ((W.alloc (.map #[] 0)).alloc (.cells #[.map (some W.heap.size)] 41)).alloc (.cells #[putV (W.heap.size + 1)] 44)
theorem had_new (W : World) : Below W.heap.size W (hadW W) ∧ EnvM (hadW W) (fun _ => False) W.heap.size 0 [] ∧ Blk (hadW W) (W.heap.size + 1) 41 #[.map (some W.heap.size)] ∧ Blk (hadW W) (W.heap.size + 2) 44 #[putV (W.heap.size + 1)] ∧ (hadW W).heap.size = W.heap.size + 3 := by
  have hs1 : (W.alloc (.map #[] 0)).heap.size = W.heap.size + 1 := by simp
  have hs2 : ((W.alloc (.map #[] 0)).alloc (.cells #[.map (some W.heap.size)] 41)).heap.size = W.heap.size + 2 := by simp
  have hb : Below (W.heap.size + 1) (W.alloc (.map #[] 0)) (hadW W) := ((Below.refl _ _).alloc (by rw [hs1]; exact Nat.le_refl _) _).alloc (by rw [hs2]; omega) _
  refine ⟨(((Below.refl _ _).alloc (Nat.le_refl _) _).alloc (by simp) _).alloc (by simp; omega) _, ?_, ?_, ?_, by simp⟩
  · exact (EnvM.made W (fun _ => False)).keep (X' := fun _ => False) (fun b h => absurd h id) (hb.block _ (by omega))
  · have := Blk.alloc (Blk.new (W.alloc (.map #[] 0)) 41 #[.map (some W.heap.size)]) (.cells #[putV (W.heap.size + 1)] 44)
    rwa [hs1] at this
  · have := Blk.new ((W.alloc (.map #[] 0)).alloc (.cells #[.map (some W.heap.size)] 41)) 44 #[putV (W.heap.size + 1)]
    rwa [hs2] at this

end Go.Proofs.Ythcjiainpaebfaa

/- The round of the loop of scriptlaw6.ResolveVars, a declaration of its own. -/
namespace Go.Proofs.Ythcjiainpaebfaa
open Go.RowKit Go.Maps

theorem blk_put12 {w w0 : World} {g lo : Nat} {t : TypeId} {a0 a1 a2 a3 b4 b5 b6 b7 b8 b9 b10 b11 b12 b13 b14 b15 : Value} (h : Blk w g t #[a0, a1, a2, a3, b4, b5, b6, b7, b8, b9, b10, b11, b12, b13, b14, b15]) (hb : Below lo w0 w) (hg : lo ≤ g) (v4 v5 v6 v7 v8 v9 v10 v11 v12 v13 v14 v15 : Value) :
    Blk ((((((((((((w.setCell ⟨g, 4, none⟩ v4).setCell ⟨g, 5, none⟩ v5).setCell ⟨g, 6, none⟩ v6).setCell ⟨g, 7, none⟩ v7).setCell ⟨g, 8, none⟩ v8).setCell ⟨g, 9, none⟩ v9).setCell ⟨g, 10, none⟩ v10).setCell ⟨g, 11, none⟩ v11).setCell ⟨g, 12, none⟩ v12).setCell ⟨g, 13, none⟩ v13).setCell ⟨g, 14, none⟩ v14).setCell ⟨g, 15, none⟩ v15) g t #[a0, a1, a2, a3, v4, v5, v6, v7, v8, v9, v10, v11, v12, v13, v14, v15] ∧ Below lo w0 ((((((((((((w.setCell ⟨g, 4, none⟩ v4).setCell ⟨g, 5, none⟩ v5).setCell ⟨g, 6, none⟩ v6).setCell ⟨g, 7, none⟩ v7).setCell ⟨g, 8, none⟩ v8).setCell ⟨g, 9, none⟩ v9).setCell ⟨g, 10, none⟩ v10).setCell ⟨g, 11, none⟩ v11).setCell ⟨g, 12, none⟩ v12).setCell ⟨g, 13, none⟩ v13).setCell ⟨g, 14, none⟩ v14).setCell ⟨g, 15, none⟩ v15) ∧ Keeps w (· ≠ g) ((((((((((((w.setCell ⟨g, 4, none⟩ v4).setCell ⟨g, 5, none⟩ v5).setCell ⟨g, 6, none⟩ v6).setCell ⟨g, 7, none⟩ v7).setCell ⟨g, 8, none⟩ v8).setCell ⟨g, 9, none⟩ v9).setCell ⟨g, 10, none⟩ v10).setCell ⟨g, 11, none⟩ v11).setCell ⟨g, 12, none⟩ v12).setCell ⟨g, 13, none⟩ v13).setCell ⟨g, 14, none⟩ v14).setCell ⟨g, 15, none⟩ v15) (· ≠ g) ∧ ((((((((((((w.setCell ⟨g, 4, none⟩ v4).setCell ⟨g, 5, none⟩ v5).setCell ⟨g, 6, none⟩ v6).setCell ⟨g, 7, none⟩ v7).setCell ⟨g, 8, none⟩ v8).setCell ⟨g, 9, none⟩ v9).setCell ⟨g, 10, none⟩ v10).setCell ⟨g, 11, none⟩ v11).setCell ⟨g, 12, none⟩ v12).setCell ⟨g, 13, none⟩ v13).setCell ⟨g, 14, none⟩ v14).setCell ⟨g, 15, none⟩ v15).heap.size = w.heap.size := by
  have s4 : Blk (w.setCell ⟨g, 4, none⟩ v4) g t #[a0, a1, a2, a3, v4, b5, b6, b7, b8, b9, b10, b11, b12, b13, b14, b15] := h.put 4 v4
  have d4 : Below lo w0 (w.setCell ⟨g, 4, none⟩ v4) := hb.setCell (p := ⟨g, 4, none⟩) hg v4
  have k4 : Keeps w (· ≠ g) (w.setCell ⟨g, 4, none⟩ v4) (· ≠ g) := Keeps.setCell (p := ⟨g, 4, none⟩) v4 (fun _ h => h) (fun _ h _ => h)
  have s5 : Blk ((w.setCell ⟨g, 4, none⟩ v4).setCell ⟨g, 5, none⟩ v5) g t #[a0, a1, a2, a3, v4, v5, b6, b7, b8, b9, b10, b11, b12, b13, b14, b15] := s4.put 5 v5
  have d5 : Below lo w0 ((w.setCell ⟨g, 4, none⟩ v4).setCell ⟨g, 5, none⟩ v5) := d4.setCell (p := ⟨g, 5, none⟩) hg v5
  have k5 : Keeps w (· ≠ g) ((w.setCell ⟨g, 4, none⟩ v4).setCell ⟨g, 5, none⟩ v5) (· ≠ g) := k4.trans (Keeps.setCell (p := ⟨g, 5, none⟩) v5 (fun _ h => h) (fun _ h _ => h))
  have s6 : Blk (((w.setCell ⟨g, 4, none⟩ v4).setCell ⟨g, 5, none⟩ v5).setCell ⟨g, 6, none⟩ v6) g t #[a0, a1, a2, a3, v4, v5, v6, b7, b8, b9, b10, b11, b12, b13, b14, b15] := s5.put 6 v6
  have d6 : Below lo w0 (((w.setCell ⟨g, 4, none⟩ v4).setCell ⟨g, 5, none⟩ v5).setCell ⟨g, 6, none⟩ v6) := d5.setCell (p := ⟨g, 6, none⟩) hg v6
  have k6 : Keeps w (· ≠ g) (((w.setCell ⟨g, 4, none⟩ v4).setCell ⟨g, 5, none⟩ v5).setCell ⟨g, 6, none⟩ v6) (· ≠ g) := k5.trans (Keeps.setCell (p := ⟨g, 6, none⟩) v6 (fun _ h => h) (fun _ h _ => h))
  have s7 : Blk ((((w.setCell ⟨g, 4, none⟩ v4).setCell ⟨g, 5, none⟩ v5).setCell ⟨g, 6, none⟩ v6).setCell ⟨g, 7, none⟩ v7) g t #[a0, a1, a2, a3, v4, v5, v6, v7, b8, b9, b10, b11, b12, b13, b14, b15] := s6.put 7 v7
  have d7 : Below lo w0 ((((w.setCell ⟨g, 4, none⟩ v4).setCell ⟨g, 5, none⟩ v5).setCell ⟨g, 6, none⟩ v6).setCell ⟨g, 7, none⟩ v7) := d6.setCell (p := ⟨g, 7, none⟩) hg v7
  have k7 : Keeps w (· ≠ g) ((((w.setCell ⟨g, 4, none⟩ v4).setCell ⟨g, 5, none⟩ v5).setCell ⟨g, 6, none⟩ v6).setCell ⟨g, 7, none⟩ v7) (· ≠ g) := k6.trans (Keeps.setCell (p := ⟨g, 7, none⟩) v7 (fun _ h => h) (fun _ h _ => h))
  have s8 : Blk (((((w.setCell ⟨g, 4, none⟩ v4).setCell ⟨g, 5, none⟩ v5).setCell ⟨g, 6, none⟩ v6).setCell ⟨g, 7, none⟩ v7).setCell ⟨g, 8, none⟩ v8) g t #[a0, a1, a2, a3, v4, v5, v6, v7, v8, b9, b10, b11, b12, b13, b14, b15] := s7.put 8 v8
  have d8 : Below lo w0 (((((w.setCell ⟨g, 4, none⟩ v4).setCell ⟨g, 5, none⟩ v5).setCell ⟨g, 6, none⟩ v6).setCell ⟨g, 7, none⟩ v7).setCell ⟨g, 8, none⟩ v8) := d7.setCell (p := ⟨g, 8, none⟩) hg v8
  have k8 : Keeps w (· ≠ g) (((((w.setCell ⟨g, 4, none⟩ v4).setCell ⟨g, 5, none⟩ v5).setCell ⟨g, 6, none⟩ v6).setCell ⟨g, 7, none⟩ v7).setCell ⟨g, 8, none⟩ v8) (· ≠ g) := k7.trans (Keeps.setCell (p := ⟨g, 8, none⟩) v8 (fun _ h => h) (fun _ h _ => h))
  have s9 : Blk ((((((w.setCell ⟨g, 4, none⟩ v4).setCell ⟨g, 5, none⟩ v5).setCell ⟨g, 6, none⟩ v6).setCell ⟨g, 7, none⟩ v7).setCell ⟨g, 8, none⟩ v8).setCell ⟨g, 9, none⟩ v9) g t #[a0, a1, a2, a3, v4, v5, v6, v7, v8, v9, b10, b11, b12, b13, b14, b15] := s8.put 9 v9
  have d9 : Below lo w0 ((((((w.setCell ⟨g, 4, none⟩ v4).setCell ⟨g, 5, none⟩ v5).setCell ⟨g, 6, none⟩ v6).setCell ⟨g, 7, none⟩ v7).setCell ⟨g, 8, none⟩ v8).setCell ⟨g, 9, none⟩ v9) := d8.setCell (p := ⟨g, 9, none⟩) hg v9
  have k9 : Keeps w (· ≠ g) ((((((w.setCell ⟨g, 4, none⟩ v4).setCell ⟨g, 5, none⟩ v5).setCell ⟨g, 6, none⟩ v6).setCell ⟨g, 7, none⟩ v7).setCell ⟨g, 8, none⟩ v8).setCell ⟨g, 9, none⟩ v9) (· ≠ g) := k8.trans (Keeps.setCell (p := ⟨g, 9, none⟩) v9 (fun _ h => h) (fun _ h _ => h))
  have s10 : Blk (((((((w.setCell ⟨g, 4, none⟩ v4).setCell ⟨g, 5, none⟩ v5).setCell ⟨g, 6, none⟩ v6).setCell ⟨g, 7, none⟩ v7).setCell ⟨g, 8, none⟩ v8).setCell ⟨g, 9, none⟩ v9).setCell ⟨g, 10, none⟩ v10) g t #[a0, a1, a2, a3, v4, v5, v6, v7, v8, v9, v10, b11, b12, b13, b14, b15] := s9.put 10 v10
  have d10 : Below lo w0 (((((((w.setCell ⟨g, 4, none⟩ v4).setCell ⟨g, 5, none⟩ v5).setCell ⟨g, 6, none⟩ v6).setCell ⟨g, 7, none⟩ v7).setCell ⟨g, 8, none⟩ v8).setCell ⟨g, 9, none⟩ v9).setCell ⟨g, 10, none⟩ v10) := d9.setCell (p := ⟨g, 10, none⟩) hg v10
  have k10 : Keeps w (· ≠ g) (((((((w.setCell ⟨g, 4, none⟩ v4).setCell ⟨g, 5, none⟩ v5).setCell ⟨g, 6, none⟩ v6).setCell ⟨g, 7, none⟩ v7).setCell ⟨g, 8, none⟩ v8).setCell ⟨g, 9, none⟩ v9).setCell ⟨g, 10, none⟩ v10) (· ≠ g) := k9.trans (Keeps.setCell (p := ⟨g, 10, none⟩) v10 (fun _ h => h) (fun _ h _ => h))
  have s11 : Blk ((((((((w.setCell ⟨g, 4, none⟩ v4).setCell ⟨g, 5, none⟩ v5).setCell ⟨g, 6, none⟩ v6).setCell ⟨g, 7, none⟩ v7).setCell ⟨g, 8, none⟩ v8).setCell ⟨g, 9, none⟩ v9).setCell ⟨g, 10, none⟩ v10).setCell ⟨g, 11, none⟩ v11) g t #[a0, a1, a2, a3, v4, v5, v6, v7, v8, v9, v10, v11, b12, b13, b14, b15] := s10.put 11 v11
  have d11 : Below lo w0 ((((((((w.setCell ⟨g, 4, none⟩ v4).setCell ⟨g, 5, none⟩ v5).setCell ⟨g, 6, none⟩ v6).setCell ⟨g, 7, none⟩ v7).setCell ⟨g, 8, none⟩ v8).setCell ⟨g, 9, none⟩ v9).setCell ⟨g, 10, none⟩ v10).setCell ⟨g, 11, none⟩ v11) := d10.setCell (p := ⟨g, 11, none⟩) hg v11
  have k11 : Keeps w (· ≠ g) ((((((((w.setCell ⟨g, 4, none⟩ v4).setCell ⟨g, 5, none⟩ v5).setCell ⟨g, 6, none⟩ v6).setCell ⟨g, 7, none⟩ v7).setCell ⟨g, 8, none⟩ v8).setCell ⟨g, 9, none⟩ v9).setCell ⟨g, 10, none⟩ v10).setCell ⟨g, 11, none⟩ v11) (· ≠ g) := k10.trans (Keeps.setCell (p := ⟨g, 11, none⟩) v11 (fun _ h => h) (fun _ h _ => h))
  have s12 : Blk (((((((((w.setCell ⟨g, 4, none⟩ v4).setCell ⟨g, 5, none⟩ v5).setCell ⟨g, 6, none⟩ v6).setCell ⟨g, 7, none⟩ v7).setCell ⟨g, 8, none⟩ v8).setCell ⟨g, 9, none⟩ v9).setCell ⟨g, 10, none⟩ v10).setCell ⟨g, 11, none⟩ v11).setCell ⟨g, 12, none⟩ v12) g t #[a0, a1, a2, a3, v4, v5, v6, v7, v8, v9, v10, v11, v12, b13, b14, b15] := s11.put 12 v12
  have d12 : Below lo w0 (((((((((w.setCell ⟨g, 4, none⟩ v4).setCell ⟨g, 5, none⟩ v5).setCell ⟨g, 6, none⟩ v6).setCell ⟨g, 7, none⟩ v7).setCell ⟨g, 8, none⟩ v8).setCell ⟨g, 9, none⟩ v9).setCell ⟨g, 10, none⟩ v10).setCell ⟨g, 11, none⟩ v11).setCell ⟨g, 12, none⟩ v12) := d11.setCell (p := ⟨g, 12, none⟩) hg v12
  have k12 : Keeps w (· ≠ g) (((((((((w.setCell ⟨g, 4, none⟩ v4).setCell ⟨g, 5, none⟩ v5).setCell ⟨g, 6, none⟩ v6).setCell ⟨g, 7, none⟩ v7).setCell ⟨g, 8, none⟩ v8).setCell ⟨g, 9, none⟩ v9).setCell ⟨g, 10, none⟩ v10).setCell ⟨g, 11, none⟩ v11).setCell ⟨g, 12, none⟩ v12) (· ≠ g) := k11.trans (Keeps.setCell (p := ⟨g, 12, none⟩) v12 (fun _ h => h) (fun _ h _ => h))
  have s13 : Blk ((((((((((w.setCell ⟨g, 4, none⟩ v4).setCell ⟨g, 5, none⟩ v5).setCell ⟨g, 6, none⟩ v6).setCell ⟨g, 7, none⟩ v7).setCell ⟨g, 8, none⟩ v8).setCell ⟨g, 9, none⟩ v9).setCell ⟨g, 10, none⟩ v10).setCell ⟨g, 11, none⟩ v11).setCell ⟨g, 12, none⟩ v12).setCell ⟨g, 13, none⟩ v13) g t #[a0, a1, a2, a3, v4, v5, v6, v7, v8, v9, v10, v11, v12, v13, b14, b15] := s12.put 13 v13
  have d13 : Below lo w0 ((((((((((w.setCell ⟨g, 4, none⟩ v4).setCell ⟨g, 5, none⟩ v5).setCell ⟨g, 6, none⟩ v6).setCell ⟨g, 7, none⟩ v7).setCell ⟨g, 8, none⟩ v8).setCell ⟨g, 9, none⟩ v9).setCell ⟨g, 10, none⟩ v10).setCell ⟨g, 11, none⟩ v11).setCell ⟨g, 12, none⟩ v12).setCell ⟨g, 13, none⟩ v13) := d12.setCell (p := ⟨g, 13, none⟩) hg v13
  have k13 : Keeps w (· ≠ g) ((((((((((w.setCell ⟨g, 4, none⟩ v4).setCell ⟨g, 5, none⟩ v5).setCell ⟨g, 6, none⟩ v6).setCell ⟨g, 7, none⟩ v7).setCell ⟨g, 8, none⟩ v8).setCell ⟨g, 9, none⟩ v9).setCell ⟨g, 10, none⟩ v10).setCell ⟨g, 11, none⟩ v11).setCell ⟨g, 12, none⟩ v12).setCell ⟨g, 13, none⟩ v13) (· ≠ g) := k12.trans (Keeps.setCell (p := ⟨g, 13, none⟩) v13 (fun _ h => h) (fun _ h _ => h))
  have s14 : Blk (((((((((((w.setCell ⟨g, 4, none⟩ v4).setCell ⟨g, 5, none⟩ v5).setCell ⟨g, 6, none⟩ v6).setCell ⟨g, 7, none⟩ v7).setCell ⟨g, 8, none⟩ v8).setCell ⟨g, 9, none⟩ v9).setCell ⟨g, 10, none⟩ v10).setCell ⟨g, 11, none⟩ v11).setCell ⟨g, 12, none⟩ v12).setCell ⟨g, 13, none⟩ v13).setCell ⟨g, 14, none⟩ v14) g t #[a0, a1, a2, a3, v4, v5, v6, v7, v8, v9, v10, v11, v12, v13, v14, b15] := s13.put 14 v14
  have d14 : Below lo w0 (((((((((((w.setCell ⟨g, 4, none⟩ v4).setCell ⟨g, 5, none⟩ v5).setCell ⟨g, 6, none⟩ v6).setCell ⟨g, 7, none⟩ v7).setCell ⟨g, 8, none⟩ v8).setCell ⟨g, 9, none⟩ v9).setCell ⟨g, 10, none⟩ v10).setCell ⟨g, 11, none⟩ v11).setCell ⟨g, 12, none⟩ v12).setCell ⟨g, 13, none⟩ v13).setCell ⟨g, 14, none⟩ v14) := d13.setCell (p := ⟨g, 14, none⟩) hg v14
  have k14 : Keeps w (· ≠ g) (((((((((((w.setCell ⟨g, 4, none⟩ v4).setCell ⟨g, 5, none⟩ v5).setCell ⟨g, 6, none⟩ v6).setCell ⟨g, 7, none⟩ v7).setCell ⟨g, 8, none⟩ v8).setCell ⟨g, 9, none⟩ v9).setCell ⟨g, 10, none⟩ v10).setCell ⟨g, 11, none⟩ v11).setCell ⟨g, 12, none⟩ v12).setCell ⟨g, 13, none⟩ v13).setCell ⟨g, 14, none⟩ v14) (· ≠ g) := k13.trans (Keeps.setCell (p := ⟨g, 14, none⟩) v14 (fun _ h => h) (fun _ h _ => h))
  have s15 : Blk ((((((((((((w.setCell ⟨g, 4, none⟩ v4).setCell ⟨g, 5, none⟩ v5).setCell ⟨g, 6, none⟩ v6).setCell ⟨g, 7, none⟩ v7).setCell ⟨g, 8, none⟩ v8).setCell ⟨g, 9, none⟩ v9).setCell ⟨g, 10, none⟩ v10).setCell ⟨g, 11, none⟩ v11).setCell ⟨g, 12, none⟩ v12).setCell ⟨g, 13, none⟩ v13).setCell ⟨g, 14, none⟩ v14).setCell ⟨g, 15, none⟩ v15) g t #[a0, a1, a2, a3, v4, v5, v6, v7, v8, v9, v10, v11, v12, v13, v14, v15] := s14.put 15 v15
  have d15 : Below lo w0 ((((((((((((w.setCell ⟨g, 4, none⟩ v4).setCell ⟨g, 5, none⟩ v5).setCell ⟨g, 6, none⟩ v6).setCell ⟨g, 7, none⟩ v7).setCell ⟨g, 8, none⟩ v8).setCell ⟨g, 9, none⟩ v9).setCell ⟨g, 10, none⟩ v10).setCell ⟨g, 11, none⟩ v11).setCell ⟨g, 12, none⟩ v12).setCell ⟨g, 13, none⟩ v13).setCell ⟨g, 14, none⟩ v14).setCell ⟨g, 15, none⟩ v15) := d14.setCell (p := ⟨g, 15, none⟩) hg v15
  have k15 : Keeps w (· ≠ g) ((((((((((((w.setCell ⟨g, 4, none⟩ v4).setCell ⟨g, 5, none⟩ v5).setCell ⟨g, 6, none⟩ v6).setCell ⟨g, 7, none⟩ v7).setCell ⟨g, 8, none⟩ v8).setCell ⟨g, 9, none⟩ v9).setCell ⟨g, 10, none⟩ v10).setCell ⟨g, 11, none⟩ v11).setCell ⟨g, 12, none⟩ v12).setCell ⟨g, 13, none⟩ v13).setCell ⟨g, 14, none⟩ v14).setCell ⟨g, 15, none⟩ v15) (· ≠ g) := k14.trans (Keeps.setCell (p := ⟨g, 15, none⟩) v15 (fun _ h => h) (fun _ h _ => h))
  exact ⟨s15, d15, k15, by simp⟩
theorem own_keeps {w w' : World} {X : Nat → Prop} {mb lo sz n : Nat} {e : TypeId} {v : Value} {xs : List Value} (hk : Keeps w (· ≠ mb) w' X) (hm : mb < lo) (h : w.ownsRow lo e sz v n xs) : w'.ownsRow lo e sz v n xs := by
  rcases h.2 with ⟨hv, h0⟩ | ⟨k, cap, cur, hv, h1, h2, h3⟩
  · exact ⟨h.1, .inl ⟨hv, h0⟩⟩
  · refine ⟨h.1, .inr ⟨k, cap, cur, hv, h1, ?_, h3⟩⟩
    rw [(hk k (show k ≠ mb by omega) (Array.getElem?_eq_some_iff.1 h2).1).1]
    exact h2
theorem blk_keeps {w w' : World} {X : Nat → Prop} {mb g : Nat} {t : TypeId} {cs : Array Value} (hk : Keeps w (· ≠ mb) w' X) (h : Blk w g t cs) (hne : g ≠ mb) : Blk w' g t cs := (hk g hne h.lt).1.trans h
theorem cells12 {g : Nat} {t : TypeId} {c0 c1 c2 c3 c4 c5 c6 c7 c8 c9 c10 c11 c12 c13 c14 c15 : Value} {wx : World} (h : Blk wx g t #[c0, c1, c2, c3, c4, c5, c6, c7, c8, c9, c10, c11, c12, c13, c14, c15]) :
    wx.cell? ⟨g, 4, none⟩ = some c4 ∧ wx.cell? ⟨g, 5, none⟩ = some c5 ∧ wx.cell? ⟨g, 6, none⟩ = some c6 ∧ wx.cell? ⟨g, 7, none⟩ = some c7 ∧ wx.cell? ⟨g, 8, none⟩ = some c8 ∧ wx.cell? ⟨g, 9, none⟩ = some c9 ∧ wx.cell? ⟨g, 10, none⟩ = some c10 ∧ wx.cell? ⟨g, 11, none⟩ = some c11 ∧ wx.cell? ⟨g, 12, none⟩ = some c12 ∧ wx.cell? ⟨g, 13, none⟩ = some c13 ∧ wx.cell? ⟨g, 14, none⟩ = some c14 ∧ wx.cell? ⟨g, 15, none⟩ = some c15 :=
  ⟨h.cell 4, h.cell 5, h.cell 6, h.cell 7, h.cell 8, h.cell 9, h.cell 10, h.cell 11, h.cell 12, h.cell 13, h.cell 14, h.cell 15⟩
/-- The body of the first loop. -/
def vwLoop : Code → Option Code
  | .loop c => some c
  | .seq a b => match vwLoop a with
    | some c => some c
    | none => vwLoop b
  | .block _ c => vwLoop c
  | .scope c => vwLoop c
  | .cond _ a b => match vwLoop a with
    | some c => some c
    | none => vwLoop b
  | _ => none
noncomputable def vwBody : Code := ((Try.f5.body.bind vwLoop).getD .skip)
set_option maxRecDepth 1000000 in
/-- The loop's invariant, in the walk's own shape. -/
def VwInv (w V : World) (mb gh gp n cb : Nat) (Ab : Option Addr) (l : List PartD) (c0 c3 c4 c5 c6 c8 c15 c16 c17 c18 c19 c20 c21 c22 c23 c24 c25 c26 c27 c28 c29 c30 c31 c32 c33 c34 c38 c39 c40 c41 : Value) (a : Act) (w' : World) : Prop :=
  ∃ u10 u12 u44 u45 u46 u47 u48 u49 u50 u51 u52 u53 u54 u55 u56 u57 u58 u59 u60 u61 u62 u63 u64 u65 u66 u67 u68 u69 u70 u71 u72 u73 : Value, VwRel w V mb l n u10 u44 w' ∧ a = ⟨#[c0, undef, .bool false, c3, c4, c5, c6, .pointer (some ⟨gh, 0, none⟩), c8, .func (.func 12) #[] #[.pointer (some ⟨gp, 0, none⟩)], u10, undef, u12, undef, undef, c15, c16, c17, c18, c19, c20, c21, c22, c23, c24, c25, c26, c27, c28, c29, c30, c31, c32, c33, c34, undef, undef, undef, c38, c39, c40, c41, .slice Ab n cb, .int .i64 n, u44, u45, u46, u47, u48, u49, u50, u51, u52, u53, u54, u55, u56, u57, u58, u59, u60, u61, u62, u63, u64, u65, u66, u67, u68, u69, u70, u71, u72, u73, undef, undef, undef, undef, undef, undef, undef, undef, undef, undef, undef, undef, undef, undef, undef, undef, undef, undef, undef, undef, undef, undef, undef, undef, undef, undef, undef, undef], []⟩
/-- A bare part and what it comes from. -/
structure BareOf (p q : PartD) : Prop where
  kind : q.kind = p.kind
  one : p.kind = 1 → q.name = p.name ∧ q.set = p.set
  two : p.kind = 2 → ∀ L, varD L p = ⟨q.kind, q.name, q.set, q.dir, putS (hadP L) q.left, putS (hadP L) q.right⟩
  no : p.kind ≠ 2 → ∀ L, varD L p = q
  few : p.kind = 2 → q.left.before.length ≤ 20 ∧ q.left.source.length ≤ 20 ∧ q.left.after.length ≤ 20 ∧ q.right.before.length ≤ 20 ∧ q.right.source.length ≤ 20 ∧ q.right.after.length ≤ 20
theorem bare_of {p : PartD} (h : partP p = 0) : BareOf p (bareD p) where
  kind := rfl
  one := fun h1 => by rw [bareD_1 h1]; exact ⟨rfl, rfl⟩
  two := fun h2 L => by rw [varD_2 h2, bareD_2 h2]
  no := fun h2 L => varD_no h2
  few := fun h2 => by
    rw [bareD_2 h2]
    rcases part_kinds h with ⟨h1, _⟩ | ⟨h1, _⟩ | ⟨h1, _⟩ | ⟨_, _, ⟨k1, k2, k3⟩, k4, k5, k6⟩
    · omega
    · omega
    · omega
    · simp only [bareS, List.length_map]
      exact ⟨(items_ok k1).1, (items_ok k2).1, (items_ok k3).1, (items_ok k4).1, (items_ok k5).1, (items_ok k6).1⟩

set_option maxRecDepth 1000000 in
set_option maxHeartbeats 25600000 in
theorem vars_round (w V wr : World) (mb gh gp n cb k N : Nat) (Ab : Option Addr) (l : List PartD) (m : Value) (K : Act → World → Prop) {c0 c3 c4 c5 c6 c8 c15 c16 c17 c18 c19 c20 c21 c22 c23 c24 c25 c26 c27 c28 c29 c30 c31 c32 c33 c34 c38 c39 c40 c41 u12 u45 u46 u47 u48 u49 u50 u51 u52 u53 u54 u55 u56 u57 u58 u59 u60 u61 u62 u63 u64 u65 u66 u67 u68 u69 u70 u71 u72 u73 : Value}
    (hlt : k < n) (hn200 : n ≤ 200) (hN : N ≤ k) (hmw : w.heap.size ≤ mb) (hml : mb < V.heap.size) (hg1 : gh ≠ mb) (hg2 : gp ≠ mb) (HGH : Hid (Blk V gh 41 #[.map (some mb)])) (HGP : Hid (Blk V gp 44 #[putV gh])) (HPX : Hid (PartsX V (X1 mb V.heap.size) Ab n (l.map bareD))) (HALL : Hid (∀ p ∈ l, partP p = 0)) (HNO : Hid (∀ (k : Nat) (p : PartD), l[k]? = some p → p.kind = 1 → lookP (l.take k) p.name = none))
    (hown : OwnL (PartX wr (VX mb V.heap.size m)) 40 16 wr V.heap.size m ((varsP l).take k)) (hem : EnvM wr (X1 mb V.heap.size) mb N (l.take k)) (hkp : Keeps V (· ≠ mb) wr (X1 mb V.heap.size)) (hbl : Below w.heap.size w wr) (hvz : V.heap.size ≤ wr.heap.size) :
    let Q' := bodyPost Try.prog Try.f5 (fun e w' => e = .returned (.bool true) ∧ Below w.heap.size w w')
    Code.wp Try.prog vwBody (Exit.then (fun a' w'' => VwInv w V mb gh gp n cb Ab l c0 c3 c4 c5 c6 c8 c15 c16 c17 c18 c19 c20 c21 c22 c23 c24 c25 c26 c27 c28 c29 c30 c31 c32 c33 c34 c38 c39 c40 c41 a' w'' ∧ n - (intOf (a'.tmps.getD 44 undef)).toNat < n - (intOf (#[c0, undef, .bool false, c3, c4, c5, c6, .pointer (some ⟨gh, 0, none⟩), c8, .func (.func 12) #[] #[.pointer (some ⟨gp, 0, none⟩)], m, undef, u12, undef, undef, c15, c16, c17, c18, c19, c20, c21, c22, c23, c24, c25, c26, c27, c28, c29, c30, c31, c32, c33, c34, undef, undef, undef, c38, c39, c40, c41, .slice Ab n cb, .int .i64 n, .int .i64 k, u45, u46, u47, u48, u49, u50, u51, u52, u53, u54, u55, u56, u57, u58, u59, u60, u61, u62, u63, u64, u65, u66, u67, u68, u69, u70, u71, u72, u73, undef, undef, undef, undef, undef, undef, undef, undef, undef, undef, undef, undef, undef, undef, undef, undef, undef, undef, undef, undef, undef, undef, undef, undef, undef, undef, undef, undef].getD 44 undef)).toNat) (Exit.inBlock 0 (Exit.then K Q'))) ⟨#[c0, undef, .bool false, c3, c4, c5, c6, .pointer (some ⟨gh, 0, none⟩), c8, .func (.func 12) #[] #[.pointer (some ⟨gp, 0, none⟩)], m, undef, u12, undef, undef, c15, c16, c17, c18, c19, c20, c21, c22, c23, c24, c25, c26, c27, c28, c29, c30, c31, c32, c33, c34, undef, undef, undef, c38, c39, c40, c41, .slice Ab n cb, .int .i64 n, .int .i64 k, u45, u46, u47, u48, u49, u50, u51, u52, u53, u54, u55, u56, u57, u58, u59, u60, u61, u62, u63, u64, u65, u66, u67, u68, u69, u70, u71, u72, u73, undef, undef, undef, undef, undef, undef, undef, undef, undef, undef, undef, undef, undef, undef, undef, undef, undef, undef, undef, undef, undef, undef, undef, undef, undef, undef, undef, undef], []⟩ wr := by
  intro Q'
  obtain ⟨i0, hi, hz0, hz1, hz2⟩ := info_parts infoPartZ
  have hlen : l.length = n := by have := HPX.out.len; rwa [List.length_map] at this
  obtain ⟨p, hp⟩ : ∃ z, l[k]? = some z := ⟨_, List.getElem?_eq_getElem (by rw [hlen]; exact hlt)⟩
  have hpx := HPX.out.keep (w' := wr) (X' := X1 mb V.heap.size) (fun b hb hl => hkp b hb.1 hl)
  obtain ⟨b, off, cs, rfl, hbb, hbl2, hpc, _, hfc⟩ := ListX.at hpx (k := k) (a := bareD p) (by rw [List.getElem?_map, hp]; rfl)
  have HBO := Lib.hid (bare_of (HALL.out p (List.mem_of_getElem? hp)))
  have HNP := Lib.hid (HNO.out k p hp)
  generalize bareD p = q at hpc HBO
  have HPC := Lib.hid hpc
  obtain ⟨A', n', c', ls, rs, rfl, hset, hn', ⟨L1, a1, x1, L2, a2, x2, L3, a3, x3, rfl, l1, l2, l3, la1, la2, la3, cl⟩, ⟨R1, b1, y1, R2, b2, y2, R3, b3, y3, rfl, r1, r2, r3, ra1, ra2, ra3, cr⟩, hkd, hdr, hnm⟩ := hpc
  have HSET := Lib.hid hset
  have HLS := Lib.hid (And.intro l1 (And.intro l2 (And.intro l3 (And.intro r1 (And.intro r2 r3)))))
  have HCU := Lib.hid (And.intro cl (And.intro cr (And.intro hkd hdr)))
  have d0 : wr.cell? ⟨b, off + k * 16, none⟩ = some (.int .i64 q.kind) := hfc 0 _ rfl
  have d1 : wr.cell? ⟨b, off + k * 16 + 1, none⟩ = some (.string q.name) := hfc 1 _ rfl
  have d2 : wr.cell? ⟨b, off + k * 16 + 2, none⟩ = some (.slice A' n' c') := hfc 2 _ rfl
  have d3 : wr.cell? ⟨b, off + k * 16 + 3, none⟩ = some (.int .i64 q.dir) := hfc 3 _ rfl
  have d4 : wr.cell? ⟨b, off + k * 16 + 4, none⟩ = some (.bool q.left.start) := hfc 4 _ rfl
  have d5 : wr.cell? ⟨b, off + k * 16 + 5, none⟩ = some (.bool q.left.fin) := hfc 5 _ rfl
  have d6 : wr.cell? ⟨b, off + k * 16 + 6, none⟩ = some (.slice L1 a1 x1) := hfc 6 _ rfl
  have d7 : wr.cell? ⟨b, off + k * 16 + 7, none⟩ = some (.slice L2 a2 x2) := hfc 7 _ rfl
  have d8 : wr.cell? ⟨b, off + k * 16 + 8, none⟩ = some (.slice L3 a3 x3) := hfc 8 _ rfl
  have d9 : wr.cell? ⟨b, off + k * 16 + 9, none⟩ = some (.int .i64 q.left.cursor) := hfc 9 _ rfl
  have d10 : wr.cell? ⟨b, off + k * 16 + 10, none⟩ = some (.bool q.right.start) := hfc 10 _ rfl
  have d11 : wr.cell? ⟨b, off + k * 16 + 11, none⟩ = some (.bool q.right.fin) := hfc 11 _ rfl
  have d12 : wr.cell? ⟨b, off + k * 16 + 12, none⟩ = some (.slice R1 b1 y1) := hfc 12 _ rfl
  have d13 : wr.cell? ⟨b, off + k * 16 + 13, none⟩ = some (.slice R2 b2 y2) := hfc 13 _ rfl
  have d14 : wr.cell? ⟨b, off + k * 16 + 14, none⟩ = some (.slice R3 b3 y3) := hfc 14 _ rfl
  have d15 : wr.cell? ⟨b, off + k * 16 + 15, none⟩ = some (.int .i64 q.right.cursor) := hfc 15 _ rfl
  have hmk : ((varsP l).take k).length = k := by rw [List.length_take, vars_len, hlen]; omega
  have HTK := Lib.hid (take_snoc hp)
  have HVS := Lib.hid (vars_snoc hp)
  have HHN := Lib.hid (had_next hp)
  have HOWN := Lib.hid hown
  have HEM := Lib.hid hem
  have HKP := Lib.hid hkp
  have HBL := Lib.hid hbl
  have HB0 := Lib.hid (Blk.new wr 40 #[.int .i64 q.kind, .string q.name, .slice A' n' c', .int .i64 q.dir, .bool q.left.start, .bool q.left.fin, .slice L1 a1 x1, .slice L2 a2 x2, .slice L3 a3 x3, .int .i64 q.left.cursor, .bool q.right.start, .bool q.right.fin, .slice R1 b1 y1, .slice R2 b2 y2, .slice R3 b3 y3, .int .i64 q.right.cursor])
  have HW0 := Lib.hid ((Below.refl wr.heap.size wr).alloc (Nat.le_refl _) (.cells #[.int .i64 q.kind, .string q.name, .slice A' n' c', .int .i64 q.dir, .bool q.left.start, .bool q.left.fin, .slice L1 a1 x1, .slice L2 a2 x2, .slice L3 a3 x3, .int .i64 q.left.cursor, .bool q.right.start, .bool q.right.fin, .slice R1 b1 y1, .slice R2 b2 y2, .slice R3 b3 y3, .int .i64 q.right.cursor] 40))
  have HGH2 := Lib.hid (blk_keeps hkp HGH.out hg1)
  have HGP2 := Lib.hid (blk_keeps hkp HGP.out hg2)
  generalize hvp : varD (l.take k) p = vp at *
  have HVP := Lib.hid hvp
  generalize (varsP l).take k = M at *
  clear hfc hset l1 l2 l3 r1 r2 r3 cl cr hp hpx hown hem hkp hbl hkd hdr la1 la2 la3 ra1 ra2 ra3 hvp
  unfold VwInv
  conv => arg 2; whnf
  go_upto_if 50 with fail
  clear d0 d1 d2 d3 d4 d5 d6 d7 d8 d9 d10 d11 d12 d13 d14 d15
  have hb0 := HB0.out
  have hw0 := HW0.out
  clear HB0 HW0
  generalize (wr.alloc (.cells #[.int .i64 q.kind, .string q.name, .slice A' n' c', .int .i64 q.dir, .bool q.left.start, .bool q.left.fin, .slice L1 a1 x1, .slice L2 a2 x2, .slice L3 a3 x3, .int .i64 q.left.cursor, .bool q.right.start, .bool q.right.fin, .slice R1 b1 y1, .slice R2 b2 y2, .slice R3 b3 y3, .int .i64 q.right.cursor] 40)) = W2 at *
  have e0 : W2.cell? ⟨wr.heap.size, 1, none⟩ = some (.string q.name) := hb0.cell 1
  have e1 : W2.cell? ⟨wr.heap.size, 2, none⟩ = some (.slice A' n' c') := hb0.cell 2
  have gg : W2.cell? ⟨gh, 0, none⟩ = some (.map (some mb)) := (Blk.below HGH2.out hw0 HGH2.out.lt).cell 0
  have HB0 := Lib.hid hb0
  have HW0 := Lib.hid hw0
  have HK2 := Lib.hid (show Keeps wr (X1 mb V.heap.size) W2 (X1 mb V.heap.size) from Keeps.below hw0 (fun _ h _ => h))
  have HE2 := Lib.hid (HEM.out.keep HK2.out (hw0.block _ HEM.out.lt))
  have hz2' := hw0.size
  have hl2 := hb0.lt
  clear hb0 hw0
  go_cut [] (fun wx => ∃ N', N' ≤ k + 1 ∧ EnvM wx (X1 mb V.heap.size) mb N' (l.take (k + 1)) ∧ Blk wx wr.heap.size 40 #[.int .i64 q.kind, .string q.name, .slice A' n' c', .int .i64 q.dir, .bool q.left.start, .bool q.left.fin, .slice L1 a1 x1, .slice L2 a2 x2, .slice L3 a3 x3, .int .i64 q.left.cursor, .bool q.right.start, .bool q.right.fin, .slice R1 b1 y1, .slice R2 b2 y2, .slice R3 b3 y3, .int .i64 q.right.cursor] ∧ Keeps W2 (· ≠ mb) wx (· ≠ mb) ∧ Below w.heap.size w wx ∧ W2.heap.size ≤ wx.heap.size)
  case first =>
    by_cases h1 : p.kind = 1
    · have q1 : (q.kind == 1) = true := by rw [HBO.out.kind, h1]; rfl
      obtain ⟨hqn, hqs⟩ := HBO.out.one h1
      have hno := HNP.out h1
      obtain ⟨D, hD1, hD2, hD3⟩ := HE2.out
      have HD1 := Lib.hid hD1
      have HD2 := Lib.hid hD2
      have HD3 := Lib.hid hD3
      have HQN := Lib.hid (And.intro hqn hqs)
      have HKIN := Lib.hid h1
      have HNN := Lib.hid hno
      clear h1 hqn hqs hno hD1 hD2 hD3
      go_wp2_with (at_mapUpdate; refine wpList_mapUpdate_own _ rfl (.tmp 51) (.tmp 53) (.tmp 55) 41 rfl 9 23 key_law Try.underlying41 Raw mb N D rfl HD1.out (by unfold maxLen; omega) (.string q.name) (.slice A' n' c') (keyL q.name) rfl rfl (key_of hnm) (.held (.slice A' n' c')) [] rfl ?_; intro w9 hown9 hgrow9)
      have hk9 : Keeps W2 (· ≠ mb) w9 (· ≠ mb) := keeps_map hgrow9 (fun _ h => h)
      have hb9 : Below w.heap.size w w9 := (HBL.out.trans (HW0.out.mono HBL.out.size)).grown hgrow9 (by omega) (fun k e => by injection e with e; omega)
      go_meet
      rw [HQN.out.1] at hown9
      refine ⟨N + 1, by omega, ?_, blk_keeps hk9 HB0.out (by omega), hk9, hb9, hgrow9.size⟩
      rw [HTK.out]
      exact EnvM.put HD2.out HD3.out HKIN.out HNN.out ⟨A', n', c', rfl, by rw [← HQN.out.2]; exact HSET.out.keep HK2.out, hn'⟩ (Keeps.trans (X' := X1 mb V.heap.size) (fun b hb hl => ⟨(hk9 b hb.1 hl).1, hb, (hk9 b hb.1 hl).2.2⟩) (Keeps.refl (fun _ h => h))) hown9
    · have q1 : (q.kind == 1) = false := by rw [HBO.out.kind]; simpa using h1
      have HOT := Lib.hid (HE2.out.other (p := p) h1)
      clear h1
      go_wp2_with fail
      go_meet
      exact ⟨N, by omega, by rw [HTK.out]; exact HOT.out, HB0.out, Keeps.refl (fun _ h => h), HBL.out.trans (HW0.out.mono HBL.out.size), Nat.le_refl _⟩
  case rest =>
  obtain ⟨N', hN', hem3, hb3, hk3, hbw3, hz3⟩ := hcut
  have hkw : Keeps wr (· ≠ mb) wc (· ≠ mb) := (Keeps.below HW0.out (fun _ h _ => h)).trans hk3
  have hkx : Keeps wr (X1 mb V.heap.size) wc (X1 mb V.heap.size) := fun b hb hl => ⟨(hkw b hb.1 hl).1, hb, (hkw b hb.1 hl).2.2⟩
  have hkv : Keeps wr (VX mb V.heap.size m) wc (VX mb V.heap.size m) := fun b hb hl => by
    have hne : b ≠ mb := by rcases hb with h | h; exact h.1; omega
    exact ⟨(hkw b hne hl).1, hb, (hkw b hne hl).2.2⟩
  have HOW3 := Lib.hid (HOWN.out.kept (w' := wc) (R' := PartX wc (VX mb V.heap.size m)) (fun _ _ h => own_keeps hkw hml h) (fun _ _ => PartX.keep hkv))
  have HKV3 := Lib.hid (show Keeps V (· ≠ mb) wc (X1 mb V.heap.size) from fun b hb hl => by
    obtain ⟨e1, e2, e3⟩ := HKP.out b hb hl
    obtain ⟨f1, f2, f3⟩ := hkw b hb e3
    exact ⟨f1.trans e1, e2, f3⟩)
  have HGH3 := Lib.hid (blk_keeps hkw HGH2.out hg1)
  have HGP3 := Lib.hid (blk_keeps hkw HGP2.out hg2)
  have HPC3 := Lib.hid (HPC.out.keep hkx)
  have HLS3 := Lib.hid (And.intro (HLS.out.1.keep hkx) (And.intro (HLS.out.2.1.keep hkx) (And.intro (HLS.out.2.2.1.keep hkx) (And.intro (HLS.out.2.2.2.1.keep hkx) (And.intro (HLS.out.2.2.2.2.1.keep hkx) (HLS.out.2.2.2.2.2.keep hkx))))))
  have HSET3 := Lib.hid (HSET.out.keep hkx)
  have HEM3 := Lib.hid hem3
  have HB3 := Lib.hid hb3
  have HBW3 := Lib.hid hbw3
  have HKW := Lib.hid hkw
  have z0 : wc.cell? ⟨wr.heap.size, 0, none⟩ = some (.int .i64 q.kind) := hb3.cell 0
  have hl3 := hb3.lt
  clear hem3 hb3 hk3 hbw3 hkw hkx hkv e0 e1 gg HB0 HW0 HK2 HE2 HGH2 HGP2 HPC HLS HSET HEM HBL HKP hl2
  obtain ⟨wd, hwd⟩ : ∃ z, z = wc := ⟨_, rfl⟩
  subst hwd
  go_upto_if 58 with fail
  go_cut [] (fun wx => ∃ cs : List Value, PartX wx (VX mb V.heap.size m) vp cs ∧ Blk wx wr.heap.size 40 cs.toArray ∧ wd.heap.size ≤ wx.heap.size ∧ Below wr.heap.size wd wx)
  case first =>
    by_cases h2 : p.kind = 2
    · have q2 : (q.kind == 2) = true := by rw [HBO.out.kind, h2]; rfl
      obtain ⟨j1, j2, j3, j4, j5, j6⟩ := HBO.out.few h2
      obtain ⟨l1, l2, l3, r1, r2, r3⟩ := HLS3.out
      obtain ⟨cl, cr, hkd, hdr⟩ := HCU.out
      have hvq : vp = ⟨q.kind, q.name, q.set, q.dir, putS (hadP (l.take (k + 1))) q.left, putS (hadP (l.take (k + 1))) q.right⟩ := by rw [← HVP.out, HHN.out h2]; exact HBO.out.two h2 _
      rw [l1.len] at j1
      rw [l2.len] at j2
      rw [l3.len] at j3
      rw [r1.len] at j4
      rw [r2.len] at j5
      rw [r3.len] at j6
      have hg := fun (w' : World) (hb : Below wd.heap.size wd w') => Blk.below HGH3.out hb HGH3.out.lt
      have hgq := fun (w' : World) (hb : Below wd.heap.size wd w') => Blk.below HGP3.out hb HGP3.out.lt
      have kx := fun (w' : World) (hb : Below wd.heap.size wd w') => (Keeps.below (X := X1 mb V.heap.size) (X' := X1 mb V.heap.size) hb (fun _ h _ => h))
      have he := fun (w' : World) (hb : Below wd.heap.size wd w') => HEM3.out.keep (kx w' hb) (hb.block _ HEM3.out.lt)
      have HSL := Lib.hid (fun (w' : World) (hb : Below wd.heap.size wd w') => vars_side (X1 mb V.heap.size) mb gh gp N' (l.take (k + 1)) q.left L1 L2 L3 a1 a2 a3 x1 x2 x3 w' (hg w' hb) (hgq w' hb) (he w' hb) (l1.keep (kx w' hb)) (l2.keep (kx w' hb)) (l3.keep (kx w' hb)) j1 j2 j3 cl)
      have HSR := Lib.hid (fun (w' : World) (hb : Below wd.heap.size wd w') => vars_side (X1 mb V.heap.size) mb gh gp N' (l.take (k + 1)) q.right R1 R2 R3 b1 b2 b3 y1 y2 y3 w' (hg w' hb) (hgq w' hb) (he w' hb) (r1.keep (kx w' hb)) (r2.keep (kx w' hb)) (r3.keep (kx w' hb)) j4 j5 j6 cr)
      generalize putS (hadP (l.take (k + 1))) q.left = sl at *
      generalize putS (hadP (l.take (k + 1))) q.right = sr at *
      have HVQ := Lib.hid hvq
      have HKD := Lib.hid (And.intro hkd hdr)
      clear hvq hkd hdr cl cr l1 l2 l3 r1 r2 r3 hg hgq kx he j1 j2 j3 j4 j5 j6 h2
      go_upto_region 17 with fail
      refine wp_region_till (S := (fun w' => w'.cell? ⟨wr.heap.size, 4, none⟩ = some (.bool q.left.start) ∧ w'.cell? ⟨wr.heap.size, 5, none⟩ = some (.bool q.left.fin) ∧ w'.cell? ⟨wr.heap.size, 6, none⟩ = some (.slice L1 a1 x1) ∧ w'.cell? ⟨wr.heap.size, 7, none⟩ = some (.slice L2 a2 x2) ∧ w'.cell? ⟨wr.heap.size, 8, none⟩ = some (.slice L3 a3 x3) ∧ w'.cell? ⟨wr.heap.size, 9, none⟩ = some (.int .i64 q.left.cursor) ∧ w'.cell? ⟨wr.heap.size, 10, none⟩ = some (.bool q.right.start) ∧ w'.cell? ⟨wr.heap.size, 11, none⟩ = some (.bool q.right.fin) ∧ w'.cell? ⟨wr.heap.size, 12, none⟩ = some (.slice R1 b1 y1) ∧ w'.cell? ⟨wr.heap.size, 13, none⟩ = some (.slice R2 b2 y2) ∧ w'.cell? ⟨wr.heap.size, 14, none⟩ = some (.slice R3 b3 y3) ∧ w'.cell? ⟨wr.heap.size, 15, none⟩ = some (.int .i64 q.right.cursor))) [2, 6] (by kernel_rfl) (cells12 (Blk.drewN HB3.out 1)) (fun hHeld => ?_)
      try simp only [Act.put]
      refine wpTill_pure (i := 0) (v := ?_) rfl (by kernel_rfl) (by kernel_rfl) (by kernel_rfl) (fun _ _ _ h => h) (Or.inl ⟨by rfl, ?_⟩) ?_
      rotate_left 1
      · intro w hSw
        (try dsimp only at hSw)
        go_simp
        try with_reducible rfl
      try simp only [Act.put]
      refine wpTill_pure (i := 1) (v := ?_) rfl (by kernel_rfl) (by kernel_rfl) (by kernel_rfl) (fun _ _ _ h => h) (Or.inl ⟨by rfl, ?_⟩) ?_
      rotate_left 1
      · intro w hSw
        (try dsimp only at hSw)
        go_simp
        try with_reducible rfl
      try simp only [Act.put]
      refine wpTill_pure (i := 4) (v := ?_) rfl (by kernel_rfl) (by kernel_rfl) (by kernel_rfl) (fun _ _ _ h => h) (Or.inl ⟨by rfl, ?_⟩) ?_
      rotate_left 1
      · intro w hSw
        (try dsimp only at hSw)
        go_simp
        try with_reducible rfl
      try simp only [Act.put]
      refine wpTill_pure (i := 5) (v := ?_) rfl (by kernel_rfl) (by kernel_rfl) (by kernel_rfl) (fun _ _ _ h => h) (Or.inl ⟨by rfl, ?_⟩) ?_
      rotate_left 1
      · intro w hSw
        (try dsimp only at hSw)
        go_simp
        try with_reducible rfl
      try simp only [Act.put]
      refine wpTill_take (i := 2) (v := ?_) rfl rfl (by kernel_rfl) (by kernel_rfl) (by kernel_rfl) (by kernel_rfl) (fun _ _ _ h => h) (Or.inl ⟨by rfl, ?_⟩) (by assumption) ?_
      rotate_left 1
      · intro w hSw
        (try dsimp only at hSw)
        go_simp
        try with_reducible rfl
      try simp only [Act.put]
      refine wpTill_take (i := 6) (v := ?_) rfl rfl (by kernel_rfl) (by kernel_rfl) (by kernel_rfl) (by kernel_rfl) (fun _ _ _ h => h) (Or.inl ⟨by rfl, ?_⟩) (by assumption) ?_
      rotate_left 1
      · intro w hSw
        (try dsimp only at hSw)
        go_simp
        try with_reducible rfl
      try simp only [Act.put]
      refine wpTill_one (i := 3) (by kernel_rfl) rfl (fun K hK => ?_)
      go_simp
      go_at_call 12
      refine (HSL.out _ (Below.refl _ _).drew).mono ?_
      rintro e w3 ⟨⟨cs, rfl, hs3⟩, hb3⟩
      obtain ⟨E1, g4, z4, E2, g5, z5, E3, g6, z6, rfl, hs3'⟩ := id hs3
      have HP3 := Lib.hid (Blk.below (Blk.drewN HB3.out 1) hb3 (Blk.drewN HB3.out 1).lt)
      have HBX3 := Lib.hid hb3
      have HBC3 := Lib.hid (show Below wd.heap.size wd w3 from ((Below.refl _ _).drew).trans hb3)
      have HS3 := Lib.hid hs3
      clear hs3 hs3' hb3
      dsimp only
      refine hK.out _ _ ?_ (fun hHeld => ?_)
      · exact cells12 HP3.out
      clear hK K
      refine wpTill_pure (i := 8) (v := ?_) rfl (by kernel_rfl) (by kernel_rfl) (by kernel_rfl) (fun _ _ _ h => h) (Or.inl ⟨by rfl, ?_⟩) ?_
      rotate_left 1
      · intro w hSw
        (try dsimp only at hSw)
        go_simp
        try with_reducible rfl
      try simp only [Act.put]
      refine wpTill_one (i := 7) (by kernel_rfl) rfl (fun K hK => ?_)
      go_simp
      go_at_call 12
      refine (HSR.out _ HBC3.out).mono ?_
      rintro e w4 ⟨⟨cs, rfl, hs4⟩, hb4⟩
      obtain ⟨F1, h4, t4, F2, h5, t5, F3, h6, t6, rfl, hs4'⟩ := id hs4
      have hp4 := Blk.below HP3.out hb4 HP3.out.lt
      have HP4 := Lib.hid hp4
      have HBX4 := Lib.hid hb4
      have HBC4 := Lib.hid (HBC3.out.trans (hb4.mono HBC3.out.size))
      have HS4 := Lib.hid hs4
      have fz4 := hp4.frozen 4
      have v4 : w4.cell? ⟨wr.heap.size, 4, none⟩ = some (.bool q.left.start) := hp4.cell 4
      have fz5 := hp4.frozen 5
      have v5 : w4.cell? ⟨wr.heap.size, 5, none⟩ = some (.bool q.left.fin) := hp4.cell 5
      have fz6 := hp4.frozen 6
      have v6 : w4.cell? ⟨wr.heap.size, 6, none⟩ = some (.slice L1 a1 x1) := hp4.cell 6
      have fz7 := hp4.frozen 7
      have v7 : w4.cell? ⟨wr.heap.size, 7, none⟩ = some (.slice L2 a2 x2) := hp4.cell 7
      have fz8 := hp4.frozen 8
      have v8 : w4.cell? ⟨wr.heap.size, 8, none⟩ = some (.slice L3 a3 x3) := hp4.cell 8
      have fz9 := hp4.frozen 9
      have v9 : w4.cell? ⟨wr.heap.size, 9, none⟩ = some (.int .i64 q.left.cursor) := hp4.cell 9
      have fz10 := hp4.frozen 10
      have v10 : w4.cell? ⟨wr.heap.size, 10, none⟩ = some (.bool q.right.start) := hp4.cell 10
      have fz11 := hp4.frozen 11
      have v11 : w4.cell? ⟨wr.heap.size, 11, none⟩ = some (.bool q.right.fin) := hp4.cell 11
      have fz12 := hp4.frozen 12
      have v12 : w4.cell? ⟨wr.heap.size, 12, none⟩ = some (.slice R1 b1 y1) := hp4.cell 12
      have fz13 := hp4.frozen 13
      have v13 : w4.cell? ⟨wr.heap.size, 13, none⟩ = some (.slice R2 b2 y2) := hp4.cell 13
      have fz14 := hp4.frozen 14
      have v14 : w4.cell? ⟨wr.heap.size, 14, none⟩ = some (.slice R3 b3 y3) := hp4.cell 14
      have fz15 := hp4.frozen 15
      have v15 : w4.cell? ⟨wr.heap.size, 15, none⟩ = some (.int .i64 q.right.cursor) := hp4.cell 15
      have hl4 := hp4.lt
      clear hs4 hs4' hb4 hp4
      dsimp only
      refine hK.out _ _ ?_ (fun hHeld => ?_)
      · exact cells12 HP4.out
      clear hK K
      refine wpTill_late (i := 9) (by kernel_rfl) rfl (by kernel_rfl) (fun K hK => ?_)
      go_simp
      refine hK.out _ _ ?_
      clear hK K
      refine wpTill_pure (i := 10) (v := ?_) rfl (by kernel_rfl) (by kernel_rfl) (by kernel_rfl) (fun _ _ _ h => h) (Or.inl ⟨by rfl, ?_⟩) ?_
      rotate_left 1
      · intro w hSw
        (try dsimp only at hSw)
        go_simp
        try with_reducible rfl
      try simp only [Act.put]
      refine wpTill_late (i := 11) (by kernel_rfl) rfl (by kernel_rfl) (fun K hK => ?_)
      go_simp
      refine hK.out _ _ ?_
      clear hK K
      refine wpTill_done (by kernel_rfl) ?_ _
      clear fz4 v4 fz5 v5 fz6 v6 fz7 v7 fz8 v8 fz9 v9 fz10 v10 fz11 v11 fz12 v12 fz13 v13 fz14 v14 fz15 v15 hHeld
      have hbz4 := HBC4.out.size
      have hb4' := HBC4.out.mono (show wr.heap.size ≤ wd.heap.size by omega)
      obtain ⟨s5, d5, k5, hz5⟩ := blk_put12 HP4.out hb4' (Nat.le_refl _) (.bool sl.start) (.bool sl.fin) (.slice E1 g4 z4) (.slice E2 g5 z5) (.slice E3 g6 z6) (.int .i64 sl.cursor) (.bool sr.start) (.bool sr.fin) (.slice F1 h4 t4) (.slice F2 h5 t5) (.slice F3 h6 t6) (.int .i64 sr.cursor)
      generalize ((((((((((((w4.setCell ⟨wr.heap.size, 4, none⟩ (.bool sl.start)).setCell ⟨wr.heap.size, 5, none⟩ (.bool sl.fin)).setCell ⟨wr.heap.size, 6, none⟩ (.slice E1 g4 z4)).setCell ⟨wr.heap.size, 7, none⟩ (.slice E2 g5 z5)).setCell ⟨wr.heap.size, 8, none⟩ (.slice E3 g6 z6)).setCell ⟨wr.heap.size, 9, none⟩ (.int .i64 sl.cursor)).setCell ⟨wr.heap.size, 10, none⟩ (.bool sr.start)).setCell ⟨wr.heap.size, 11, none⟩ (.bool sr.fin)).setCell ⟨wr.heap.size, 12, none⟩ (.slice F1 h4 t4)).setCell ⟨wr.heap.size, 13, none⟩ (.slice F2 h5 t5)).setCell ⟨wr.heap.size, 14, none⟩ (.slice F3 h6 t6)).setCell ⟨wr.heap.size, 15, none⟩ (.int .i64 sr.cursor)) = W5 at *
      have hbz3 := HBC3.out.size
      have hky : Keeps w4 (fun b => X1 mb V.heap.size b ∨ wd.heap.size ≤ b) W5 (fun b => X1 mb V.heap.size b ∨ wd.heap.size ≤ b) := fun b hb hl => by
        have hne : b ≠ wr.heap.size := by
          rcases hb with h | h
          · have := h.2; omega
          · omega
        exact ⟨(k5 b hne hl).1, hb, (k5 b hne hl).2.2⟩
      have hno : ∀ b, wd.heap.size ≤ b → m.ownBlock ≠ some b := fun b hb e => by
        obtain ⟨_, _, _, _, h4⟩ := HOW3.out
        have := (own_lt h4 e).2
        omega
      have hkf : Keeps W5 (fun b => X1 mb V.heap.size b ∨ wd.heap.size ≤ b) W5 (VX mb V.heap.size m) := Keeps.refl (fun b hb => hb.imp id (fun h => ⟨by omega, hno b h⟩))
      have hsl := ((HS3.out.keep (Keeps.below (X' := fun b => X1 mb V.heap.size b ∨ wd.heap.size ≤ b) HBX4.out (fun b h _ => h))).keep hky).keep hkf
      have hsr := ((HS4.out.keep (Keeps.refl (X' := fun b => X1 mb V.heap.size b ∨ wd.heap.size ≤ b) (fun b h => h.imp id (fun h => by omega)))).keep hky).keep hkf
      have hst := ((HSET3.out.keep (Keeps.below (X' := fun b => X1 mb V.heap.size b ∨ wd.heap.size ≤ b) HBC4.out (fun b h _ => .inl h))).keep hky).keep hkf
      have HPN := Lib.hid (show PartX W5 (VX mb V.heap.size m) vp [.int .i64 q.kind, .string q.name, .slice A' n' c', .int .i64 q.dir, .bool sl.start, .bool sl.fin, .slice E1 g4 z4, .slice E2 g5 z5, .slice E3 g6 z6, .int .i64 sl.cursor, .bool sr.start, .bool sr.fin, .slice F1 h4 t4, .slice F2 h5 t5, .slice F3 h6 t6, .int .i64 sr.cursor] by rw [HVQ.out]; exact ⟨A', n', c', [.bool sl.start, .bool sl.fin, .slice E1 g4 z4, .slice E2 g5 z5, .slice E3 g6 z6, .int .i64 sl.cursor], [.bool sr.start, .bool sr.fin, .slice F1 h4 t4, .slice F2 h5 t5, .slice F3 h6 t6, .int .i64 sr.cursor], rfl, hst, hn', hsl, hsr, HKD.out.1, HKD.out.2, hnm⟩)
      have HS5 := Lib.hid s5
      have HD5 := Lib.hid d5
      clear hsl hsr hst hkf hky k5 s5 d5 hb4'
      go_wp2_with fail
      go_meet
      exact ⟨_, HPN.out, HS5.out, by omega, HD5.out⟩
    · have q2 : (q.kind == 2) = false := by rw [HBO.out.kind]; simpa using h2
      have HVQ := Lib.hid (show vp = q by rw [← HVP.out]; exact HBO.out.no h2 _)
      have HPN := Lib.hid (HPC3.out.keep (Keeps.refl (X' := VX mb V.heap.size m) (fun _ h => .inl h)))
      clear h2
      go_wp2_with fail
      go_meet
      exact ⟨_, by rw [HVQ.out]; exact HPN.out, HB3.out, Nat.le_refl _, Below.refl _ _⟩
  case rest =>
  obtain ⟨cs, hpc, hbx, hzx, hwx⟩ := hcut
  have hone := hpc.one
  obtain ⟨A8, n8, c8, M1, e1', z1, M2, e2', z2, M3, e3', z3, N1, h1', t1, N2, h2', t2, N3, h3', t3, rfl⟩ := hpc.form
  have y0' : wc.cell? ⟨wr.heap.size, 0, none⟩ = some (.int .i64 vp.kind) := hbx.cell 0
  have y1' : wc.cell? ⟨wr.heap.size, 1, none⟩ = some (.string vp.name) := hbx.cell 1
  have y2' : wc.cell? ⟨wr.heap.size, 2, none⟩ = some (.slice A8 n8 c8) := hbx.cell 2
  have y3' : wc.cell? ⟨wr.heap.size, 3, none⟩ = some (.int .i64 vp.dir) := hbx.cell 3
  have y4' : wc.cell? ⟨wr.heap.size, 4, none⟩ = some (.bool vp.left.start) := hbx.cell 4
  have y5' : wc.cell? ⟨wr.heap.size, 5, none⟩ = some (.bool vp.left.fin) := hbx.cell 5
  have y6' : wc.cell? ⟨wr.heap.size, 6, none⟩ = some (.slice M1 e1' z1) := hbx.cell 6
  have y7' : wc.cell? ⟨wr.heap.size, 7, none⟩ = some (.slice M2 e2' z2) := hbx.cell 7
  have y8' : wc.cell? ⟨wr.heap.size, 8, none⟩ = some (.slice M3 e3' z3) := hbx.cell 8
  have y9' : wc.cell? ⟨wr.heap.size, 9, none⟩ = some (.int .i64 vp.left.cursor) := hbx.cell 9
  have y10' : wc.cell? ⟨wr.heap.size, 10, none⟩ = some (.bool vp.right.start) := hbx.cell 10
  have y11' : wc.cell? ⟨wr.heap.size, 11, none⟩ = some (.bool vp.right.fin) := hbx.cell 11
  have y12' : wc.cell? ⟨wr.heap.size, 12, none⟩ = some (.slice N1 h1' t1) := hbx.cell 12
  have y13' : wc.cell? ⟨wr.heap.size, 13, none⟩ = some (.slice N2 h2' t2) := hbx.cell 13
  have y14' : wc.cell? ⟨wr.heap.size, 14, none⟩ = some (.slice N3 h3' t3) := hbx.cell 14
  have y15' : wc.cell? ⟨wr.heap.size, 15, none⟩ = some (.int .i64 vp.right.cursor) := hbx.cell 15
  have hrw := HBW3.out.size
  have hkr : Keeps wr (· ≠ mb) wc (· ≠ mb) := fun b hb hl => by
    obtain ⟨e1, e2, e3⟩ := HKW.out b hb hl
    exact ⟨(hwx.block b hl).trans e1, hb, by omega⟩
  have hkvr : Keeps wr (VX mb V.heap.size m) wc (VX mb V.heap.size m) := fun b hb hl => by
    have hne : b ≠ mb := by rcases hb with h | h; exact h.1; omega
    exact ⟨(hkr b hne hl).1, hb, (hkr b hne hl).2.2⟩
  obtain ⟨css, y1, y2, y3, y4⟩ := HOWN.out.kept (w' := wc) (R' := PartX wc (VX mb V.heap.size m)) (fun _ _ h => own_keeps hkr hml h) (fun _ _ => PartX.keep hkvr)
  have HEC := Lib.hid (HEM3.out.keep (w' := wc) (X' := X1 mb V.heap.size) (fun b hb hl => ⟨hwx.block b (by have := hb.2; omega), hb, by omega⟩) (hwx.block _ (by omega)))
  have HKC := Lib.hid (show Keeps V (· ≠ mb) wc (X1 mb V.heap.size) from fun b hb hl => by
    obtain ⟨e1, e2, e3⟩ := HKV3.out b hb hl
    exact ⟨(hwx.block b (by omega)).trans e1, e2, by omega⟩)
  have HBC := Lib.hid (HBW3.out.trans (hwx.mono (by omega)))
  have HO := Lib.hid (World.ownsRow.alloc y4 (.cells #[.int .i64 vp.kind, .string vp.name, .slice A8 n8 c8, .int .i64 vp.dir, .bool vp.left.start, .bool vp.left.fin, .slice M1 e1' z1, .slice M2 e2' z2, .slice M3 e3' z3, .int .i64 vp.left.cursor, .bool vp.right.start, .bool vp.right.fin, .slice N1 h1' t1, .slice N2 h2' t2, .slice N3 h3' t3, .int .i64 vp.right.cursor] 40))
  have HN2 := Lib.hid (Rd.new wc 40 16 1 [.int .i64 vp.kind, .string vp.name, .slice A8 n8 c8, .int .i64 vp.dir, .bool vp.left.start, .bool vp.left.fin, .slice M1 e1' z1, .slice M2 e2' z2, .slice M3 e3' z3, .int .i64 vp.left.cursor, .bool vp.right.start, .bool vp.right.fin, .slice N1 h1' t1, .slice N2 h2' t2, .slice N3 h3' t3, .int .i64 vp.right.cursor] rfl)
  have H1C := Lib.hid hone.2
  have HPQ := Lib.hid hpc
  have Y1 := Lib.hid y1
  have Y2 := Lib.hid y2
  have Y3 := Lib.hid y3
  have hzw := HBC.out.size
  clear hbx hwx hkr hkvr hpc y1 y2 y3 y4 hone
  go_wp2_with (at_builtin; refine wpList_append_rd _ rfl (.tmp 69) (.tmp 71) 22 rfl V.heap.size 40 i0 _ 16 232 Try.underlying22 hi hz0 hz1 hz2 rfl (by decide) _ _ _ rfl HO.out _ (some ⟨wc.heap.size, 0, none⟩) 1 1 [.int .i64 vp.kind, .string vp.name, .slice A8 n8 c8, .int .i64 vp.dir, .bool vp.left.start, .bool vp.left.fin, .slice M1 e1' z1, .slice M2 e2' z2, .slice M3 e3' z3, .int .i64 vp.left.cursor, .bool vp.right.start, .bool vp.right.fin, .slice N1 h1' t1, .slice N2 h2' t2, .slice N3 h3' t3, .int .i64 vp.right.cursor] rfl HN2.out H1C.out (by rw [hmk]; unfold maxLen; omega) (by rw [hmk]; omega) (by simp; omega) ?_)
  intro v9 w9 happ
  rw [← hmk] at happ
  have hka : Keeps wc (VX mb V.heap.size m) w9 (VX mb V.heap.size v9) := (Keeps.alloc _ (fun _ h _ => h)).trans (vx_app HO.out happ)
  have hk9 : Keeps wc (· < V.heap.size) w9 (· < V.heap.size) := (Keeps.alloc _ (fun _ h _ => h)).trans (Keeps.app happ (fun b hb e => by have := (own_lt HO.out e).1; omega) (fun _ h _ => h))
  have HOW := Lib.hid (OwnL.push Y1.out Y2.out Y3.out (fun _ _ => PartX.keep hka) (HPQ.out.keep hka) rfl happ)
  have HEN := Lib.hid (HEC.out.keep (w' := w9) (X' := X1 mb V.heap.size) (fun b hb hl => ⟨(hk9 b hb.2 hl).1, hb, (hk9 b hb.2 hl).2.2⟩) (hk9 mb hml (by omega)).1)
  have HKN := Lib.hid (show Keeps V (· ≠ mb) w9 (X1 mb V.heap.size) from fun b hb hl => by
    obtain ⟨e1, e2, e3⟩ := HKC.out b hb hl
    obtain ⟨f1, f2, f3⟩ := hk9 b e2.2 e3
    exact ⟨f1.trans e1, e2, f3⟩)
  have HBN := Lib.hid (HBC.out.trans (((Below.refl w.heap.size wc).alloc (by omega) (.cells #[.int .i64 vp.kind, .string vp.name, .slice A8 n8 c8, .int .i64 vp.dir, .bool vp.left.start, .bool vp.left.fin, .slice M1 e1' z1, .slice M2 e2' z2, .slice M3 e3' z3, .int .i64 vp.left.cursor, .bool vp.right.start, .bool vp.right.fin, .slice N1 h1' t1, .slice N2 h2' t2, .slice N3 h3' t3, .int .i64 vp.right.cursor] 40)).trans ((happ.below (by simp; omega) HO.out).mono (by omega))))
  have hsz := happ.2.1.size
  clear happ hka hk9
  go_wp2_with fail
  refine ⟨⟨k + 1, N', hlt, hN', by go_num, ?_, HEN.out, HKN.out, HBN.out, by simp at hsz; omega⟩, by simp only [intOf]; omega⟩
  rw [HVS.out]
  exact HOW.out

end Go.Proofs.Ythcjiainpaebfaa

/- The walk of scriptlaw6.ResolveVars. -/
namespace Go.Proofs.Ythcjiainpaebfaa
open Go.RowKit Go.Maps

set_option maxRecDepth 1000000 in
set_option maxHeartbeats 12800000 in
theorem resolve_vars (A : Option Addr) (n c : Nat) (l : List PartD) (w : World) (hn : n ≤ maxLen) (hl : RdP w w.heap.size A n l) :
    Calls Try.prog 5 #[.slice A n c] w fun e w' => e = .returned (.bool true) ∧ Below w.heap.size w w' := by
  have H1 := Lib.hid (fun (w' : World) (hb : Below w.heap.size w w') => syn_forth w.heap.size A n c l w' hn hb.size (RdP.weak (weak_of hb (Nat.le_refl _)) hl))
  have H3 := Lib.hid (fun (w' : World) (hb : Below w.heap.size w w') => syn_back w.heap.size A n c l w' hn hb.size (RdP.weak (weak_of hb (Nat.le_refl _)) hl))
  have HFE := Lib.hid (ready_fault l)
  have HL := Lib.hid hl
  have HN := Lib.hid hn
  have HLEN := Lib.hid (RdL.len hl)
  clear hl hn
  go_enter Try.func5, Try.ntmps5
  go_wp2_with fail
  refine (alive_true _).mono ?_
  rintro e w1 ⟨rfl, hb1⟩
  have HB1 := Lib.hid hb1
  clear hb1
  go_wp2_with fail
  refine (H1.out _ HB1.out).mono ?_
  rintro e w2 ⟨⟨cs, _, rfl, hcs⟩, hb2⟩
  obtain ⟨A1, n1, c1, A2, n2, c2, rfl⟩ := script_form hcs
  obtain ⟨hq0, hq1, hq2, hq3⟩ := two_new w2 26 29 #[.bool (readyP false l).1.only?, .slice A1 n1 c1, .slice A2 n2 c2] #[.int .i64 (readyP false l).2.1, .int .i64 (readyP false l).2.2]
  have hz1 := HB1.out.size
  have hz2 := hb2.size
  have HB3 := Lib.hid (HB1.out.trans ((hb2.trans (hq2.mono hb2.size)).mono hz1))
  have HQ0 := Lib.hid hq0
  have HQ1 := Lib.hid hq1
  have HCS := Lib.hid (hcs.keep (show Keeps w2 (Fr w.heap.size w1.heap.size) _ (· < w2.heap.size) from fun b hb hl => ⟨hq2.block b hl, hl, by rw [hq3]; omega⟩))
  clear hq0 hq1 hq2 hcs hb2 HB1
  go_wp2_with fail
  refine (H3.out _ HB3.out).mono ?_
  rintro e w4 ⟨⟨ds, _, he, hds⟩, hb4⟩
  rw [HFE.out] at he
  subst he
  obtain ⟨B1, m1, d1, B2, m2, d2, rfl⟩ := script_form hds
  obtain ⟨hr0, hr1, hr2, hr3⟩ := two_new w4 26 29 #[.bool (readyP true l).1.only?, .slice B1 m1 d1, .slice B2 m2 d2] #[.int .i64 (readyP false l).2.1, .int .i64 (readyP false l).2.2]
  have hz4 := hb4.size
  rw [hq3] at hz4
  have hbx := hb4.trans (hr2.mono hb4.size)
  have x0 := Blk.below HQ0.out hbx HQ0.out.lt
  have x1 := Blk.below HQ1.out hbx HQ1.out.lt
  have HA0 := Lib.hid x0
  have HA1 := Lib.hid x1
  have HB0 := Lib.hid hr0
  have HB1 := Lib.hid hr1
  have HBL := Lib.hid (HB3.out.trans (hbx.mono HB3.out.size))
  have HCS5 := Lib.hid (HCS.out.keep (Keeps.below (X' := fun b => b < w4.heap.size ∧ b ≠ w2.heap.size + 1) hbx (fun b h _ => ⟨by omega, by omega⟩)))
  have HDS5 := Lib.hid (hds.keep (show Keeps w4 (Fr w.heap.size _) _ (fun b => b < w4.heap.size ∧ b ≠ w2.heap.size + 1) from fun b hb hl => ⟨hr2.block b hl, ⟨hl, by rw [hq3] at hb; rcases hb with h | h <;> omega⟩, by rw [hr3]; omega⟩))
  clear hr0 hr1 hr2 hr3 hds hb4 hbx x0 x1 HCS HQ0 HQ1 HB3
  go_upto_region 5 with fail
  have ha0 := HA0.out
  have ha1 := HA1.out
  have hb0 := HB0.out
  have hb1 := HB1.out
  have hbl := HBL.out
  have hcs := HCS5.out
  have hds := HDS5.out
  clear HA0 HA1 HB0 HB1 HBL HCS5 HDS5
  generalize ((w4.alloc (.cells #[.bool (readyP true l).1.only?, .slice B1 m1 d1, .slice B2 m2 d2] 26)).alloc (.cells #[.int .i64 (readyP false l).2.1, .int .i64 (readyP false l).2.2] 29)) = W5 at *
  generalize hF1 : (readyP false l).2.1 = F1 at *
  generalize hF2 : (readyP false l).2.2 = F2 at *
  have y0 : W5.cell? ⟨w2.heap.size + 1, 0, none⟩ = some (.int .i64 F1) := ha1.cell 0
  have y1 : W5.cell? ⟨w2.heap.size + 1, 1, none⟩ = some (.int .i64 F2) := ha1.cell 1
  have y2 : W5.cell? ⟨w4.heap.size + 1, 0, none⟩ = some (.int .i64 F1) := hb1.cell 0
  have y3 : W5.cell? ⟨w4.heap.size + 1, 1, none⟩ = some (.int .i64 F2) := hb1.cell 1
  have HA0 := Lib.hid ha0
  have HA1 := Lib.hid ha1
  have HB0 := Lib.hid hb0
  have HB1 := Lib.hid hb1
  have HBL := Lib.hid hbl
  have HCS := Lib.hid hcs
  have HDS := Lib.hid hds
  have HF1 := Lib.hid hF1
  have HF2 := Lib.hid hF2
  have hl5 := hb1.lt
  clear ha0 ha1 hb0 hb1 hbl hcs hds hF1 hF2 hq3
  by_cases hF : F1 = 0
  · subst hF
    have HRF := Lib.hid (show (readyP false l).2.1 = 0 from HF1.out)
    obtain ⟨hw0, h20, _⟩ := ready_ok_facts HRF.out
    have HF0 := Lib.hid hw0
    have hf2 : F2 = 0 := by rw [← HF2.out, h20]
    subst hf2
    have HALL := Lib.hid (file_zero.1 hw0).2
    have HNO := Lib.hid (ready_names HRF.out)
    have hn200 : n ≤ 200 := by rw [← HLEN.out]; exact (file_zero.1 hw0).1
    clear hw0 h20
    have hmm := @run_makeMap Try.prog
    have hst := fun (w' : World) (a : Addr) (m : Mode) => run_store Try.prog w' a (putV (W5.heap.size + 1)) m rfl
    obtain ⟨v1, v2, v3, v4, v5⟩ := had_new W5
    have hbv := HBL.out.trans (v1.mono HBL.out.size)
    have HV1 := Lib.hid v1
    have HV2 := Lib.hid v2
    have HV3 := Lib.hid v3
    have HV4 := Lib.hid v4
    have HBV := Lib.hid hbv
    have HBR := Lib.hid (ref_bare w.heap.size A n c l (hadW W5) hbv.size (PartsX.of_rd hbv.size (RdP.weak (weak_of hbv (Nat.le_refl _)) HL.out)) HF0.out)
    clear v1 v2 v3 v4 hbv
    go_wp2_with fail
    refine HBR.out.mono ?_
    rintro e w6 ⟨⟨Ab, cb, rfl, hpb⟩, hb6⟩
    have h3 := Blk.below HV3.out hb6 HV3.out.lt
    have h4 := Blk.below HV4.out hb6 HV4.out.lt
    have hz6 := hb6.size
    have hbw := HBV.out.trans (hb6.mono HBV.out.size)
    have hem := HV2.out.keep (X' := X1 W5.heap.size w6.heap.size) (fun b h => absurd h id) (hb6.block _ HV2.out.lt)
    have h5 := HBV.out.size
    have hwz := HBL.out.size
    have hpx := hpb.keep (show Keeps w6 (Fr w.heap.size (hadW W5).heap.size) w6 (X1 W5.heap.size w6.heap.size) from fun b hb hl => ⟨rfl, ⟨by rcases hb with h | h <;> omega, hl⟩, hl⟩)
    have HGH := Lib.hid h3
    have HGP := Lib.hid h4
    have HPX := Lib.hid hpx
    have HBW := Lib.hid hbw
    have HEM := Lib.hid hem
    have HKS := Lib.hid (show Keeps W5 (· < W5.heap.size) w6 (· < W5.heap.size) from Keeps.below (HV1.out.trans (hb6.mono HV1.out.size)) (fun _ h _ => h))
    have HK5 := Lib.hid (fun (g : Nat) (t : TypeId) (cs : Array Value) (h : Blk W5 g t cs) => Blk.below h (HV1.out.trans (hb6.mono HV1.out.size)) h.lt)
    have hz5 : W5.heap.size + 3 ≤ w6.heap.size := by omega
    clear hpb hb6 h3 h4 hbw hem hpx HV1 HV2 HV3 HV4 HBV HBR hz6 v5 h5 hmm hst
    go_wp2_with fail
    go_loopw [10, 44] (VwRel w w6 W5.heap.size l n) (fun _ i _ => n - (intOf i).toNat)
    case atStart =>
      exact ⟨0, 0, Nat.zero_le _, Nat.le_refl _, rfl, OwnL.nil _ _, HEM.out, fun b hb hl => ⟨rfl, ⟨hb, hl⟩, hl⟩, HBW.out, Nat.le_refl _⟩
    case round =>
      obtain ⟨k, N, hk, hN, rfl, hown, hem, hkp, hbl, hvz⟩ := hrel
      by_cases hlt : k < n
      · exact vars_round w w6 wr W5.heap.size (W5.heap.size + 1) (W5.heap.size + 1 + 1) n cb k N Ab l u10 _ hlt hn200 hN hwz (by omega) (by omega) (by omega) HGH HGP HPX HALL HNO hown hem hkp hbl hvz
      · obtain rfl : k = n := by omega
        have htl : (varsP l).take k = varsP l := by rw [List.take_of_length_le (by rw [vars_len, HLEN.out]; exact Nat.le_refl _)]
        rw [htl] at hown
        obtain ⟨Am, km, rfl, _⟩ := hown.form
        have hmk : (varsP l).length = k := by rw [vars_len, HLEN.out]
        rw [hmk] at hown
        have hpm : RdP wr wr.heap.size Am k (varsP l) := by
          obtain ⟨css, h1, h2, h3, h4⟩ := hown
          exact ⟨css, hmk, h1.trans hmk, fun i a cs x y => (h2 i a cs x y).rd, h3, by rw [hmk] at h4; exact Rd.of_own h4⟩
        have x0 := blk_keeps hkp (HK5.out _ _ _ HA0.out) (by have := HA0.out.lt; omega)
        have x1 := blk_keeps hkp (HK5.out _ _ _ HA1.out) (by have := HA1.out.lt; omega)
        have x2 := blk_keeps hkp (HK5.out _ _ _ HB0.out) (by have := HB0.out.lt; omega)
        have x3 := blk_keeps hkp (HK5.out _ _ _ HB1.out) (by have := HB1.out.lt; omega)
        have hks : Keeps W5 (fun b => b < w4.heap.size ∧ b ≠ w2.heap.size + 1) wr (fun _ => True) := fun b hb hl => by
          obtain ⟨e1, e2, e3⟩ := HKS.out b hl hl
          obtain ⟨f1, f2, f3⟩ := hkp b (by omega) e3
          exact ⟨f1.trans e1, trivial, f3⟩
        have HC6 := Lib.hid (HCS.out.keep hks)
        have HD6 := Lib.hid (HDS.out.keep hks)
        have X0 := Lib.hid x0
        have X1' := Lib.hid x1
        have X2 := Lib.hid x2
        have X3 := Lib.hid x3
        have HBE := Lib.hid hbl
        have HFO := Lib.hid (fun (w' : World) (hx : Below wr.heap.size wr w') => syn_forth wr.heap.size Am k km (varsP l) w' HN.out hx.size (RdP.weak (weak_of hx (Nat.le_refl _)) hpm))
        have HBK := Lib.hid (fun (w' : World) (hx : Below wr.heap.size wr w') => syn_back wr.heap.size Am k km (varsP l) w' HN.out hx.size (RdP.weak (weak_of hx (Nat.le_refl _)) hpm))
        have HR1 := Lib.hid (show readyP false (varsP l) = readyP false l from ready_vars HRF.out)
        have HR2 := Lib.hid (show readyP true (varsP l) = readyP true l from ready_vars (by rw [HFE.out]; exact HRF.out))
        have HRA := Lib.hid (show (readyP false l).2 = (0, 0) from Prod.ext HRF.out HF2.out)
        have HRB := Lib.hid (show (readyP true l).2 = (0, 0) by rw [HFE.out]; exact HRA.out)
        clear hown hpm x0 x1 x2 x3 hks hem hkp hbl HA0 HA1 HB0 HB1 HCS HDS HK5 HKS H1 H3 HGH HGP HPX HBW HEM y0 y1 y2 y3
        go_wp2_with fail
        refine (HFO.out _ (Below.refl _ _)).mono ?_
        rintro e w7 ⟨⟨es, _, he, hes⟩, hb7⟩
        rw [HR1.out] at he hes
        rw [HRA.out] at he
        subst he
        obtain ⟨C1, p1, q1, C2, p2, q2, rfl⟩ := script_form hes
        have hz7 := hb7.size
        have hbs := hb7.trans ((Below.refl _ _).alloc hz7 (.cells #[.bool (readyP false l).1.only?, .slice C1 p1 q1, .slice C2 p2 q2] 26))
        have hn7 := Blk.new w7 26 #[.bool (readyP false l).1.only?, .slice C1 p1 q1, .slice C2 p2 q2]
        have z1 := Blk.below X1'.out hbs X1'.out.lt
        have f0 := z1.frozen 0
        have f1 := z1.frozen 1
        have g0 : (w7.alloc (.cells #[.bool (readyP false l).1.only?, .slice C1 p1 q1, .slice C2 p2 q2] 26)).cell? ⟨w2.heap.size + 1, 0, none⟩ = some (.int .i64 0) := z1.cell 0
        have g1 : (w7.alloc (.cells #[.bool (readyP false l).1.only?, .slice C1 p1 q1, .slice C2 p2 q2] 26)).cell? ⟨w2.heap.size + 1, 1, none⟩ = some (.int .i64 0) := z1.cell 1
        have HS1 := Lib.hid (show ((w7.alloc (.cells #[.bool (readyP false l).1.only?, .slice C1 p1 q1, .slice C2 p2 q2] 26)).setCell ⟨w2.heap.size + 1, 0, none⟩ (.int .i64 0)).setCell ⟨w2.heap.size + 1, 1, none⟩ (.int .i64 0) = w7.alloc (.cells #[.bool (readyP false l).1.only?, .slice C1 p1 q1, .slice C2 p2 q2] 26) by rw [set_self z1 rfl, set_self z1 rfl])
        have HE7 := Lib.hid (hes.keep (Keeps.alloc (X' := fun _ => True) (.cells #[.bool (readyP false l).1.only?, .slice C1 p1 q1, .slice C2 p2 q2] 26) (fun _ _ _ => trivial)))
        have HBS := Lib.hid hbs
        have HN7 := Lib.hid hn7
        have hl7 := z1.lt
        clear hes hb7 hbs hn7 z1
        go_upto_region 21 with fail
        clear f0 f1 g0 g1
        generalize hW8 : ((w7.alloc (.cells #[.bool (readyP false l).1.only?, .slice C1 p1 q1, .slice C2 p2 q2] 26)).setCell ⟨w2.heap.size + 1, 0, none⟩ (.int .i64 0)).setCell ⟨w2.heap.size + 1, 1, none⟩ (.int .i64 0) = W8 at *
        have hW9 := HS1.out
        have HE8 := Lib.hid (show ScriptC W8 (fun _ => True) (readyP false l).1 _ by rw [hW9]; exact HE7.out)
        have HB8 := Lib.hid (show Below wr.heap.size wr W8 by rw [hW9]; exact HBS.out)
        have HN8 := Lib.hid (show Blk W8 w7.heap.size 26 #[.bool (readyP false l).1.only?, .slice C1 p1 q1, .slice C2 p2 q2] by rw [hW9]; exact HN7.out)
        clear hW8 hW9 HS1 HE7 HBS HN7
        go_wp2_with fail
        refine (HBK.out _ HB8.out).mono ?_
        rintro e w9 ⟨⟨ks, _, he, hks⟩, hb9⟩
        rw [HR2.out] at he hks
        rw [HRB.out] at he
        subst he
        obtain ⟨D1, r1, s1, D2, r2, s2, rfl⟩ := script_form hks
        have hz9 := hb9.size
        have hz8 := HB8.out.size
        have hbt := hb9.trans ((Below.refl _ _).alloc hz9 (.cells #[.bool (readyP true l).1.only?, .slice D1 r1 s1, .slice D2 r2 s2] 26))
        have hbw := HB8.out.trans (hbt.mono HB8.out.size)
        have hn9 := Blk.new w9 26 #[.bool (readyP true l).1.only?, .slice D1 r1 s1, .slice D2 r2 s2]
        have z1 := Blk.below X3.out hbw X3.out.lt
        have f0 := z1.frozen 0
        have f1 := z1.frozen 1
        have g0 : (w9.alloc (.cells #[.bool (readyP true l).1.only?, .slice D1 r1 s1, .slice D2 r2 s2] 26)).cell? ⟨w4.heap.size + 1, 0, none⟩ = some (.int .i64 0) := z1.cell 0
        have g1 : (w9.alloc (.cells #[.bool (readyP true l).1.only?, .slice D1 r1 s1, .slice D2 r2 s2] 26)).cell? ⟨w4.heap.size + 1, 1, none⟩ = some (.int .i64 0) := z1.cell 1
        have HS1 := Lib.hid (show ((w9.alloc (.cells #[.bool (readyP true l).1.only?, .slice D1 r1 s1, .slice D2 r2 s2] 26)).setCell ⟨w4.heap.size + 1, 0, none⟩ (.int .i64 0)).setCell ⟨w4.heap.size + 1, 1, none⟩ (.int .i64 0) = w9.alloc (.cells #[.bool (readyP true l).1.only?, .slice D1 r1 s1, .slice D2 r2 s2] 26) by rw [set_self z1 rfl, set_self z1 rfl])
        have HD9 := Lib.hid (hks.keep (Keeps.alloc (X' := fun _ => True) (.cells #[.bool (readyP true l).1.only?, .slice D1 r1 s1, .slice D2 r2 s2] 26) (fun _ _ _ => trivial)))
        have HE9 := Lib.hid (HE8.out.keep (Keeps.below (X' := fun _ => True) hbt (fun _ _ _ => trivial)))
        have HC9 := Lib.hid (HC6.out.keep (Keeps.below (X' := fun _ => True) hbw (fun _ _ _ => trivial)))
        have HDD := Lib.hid (HD6.out.keep (Keeps.below (X' := fun _ => True) hbw (fun _ _ _ => trivial)))
        have HBW := Lib.hid hbw
        have HNC := Lib.hid (Blk.below HN8.out hbt HN8.out.lt)
        have HND := Lib.hid hn9
        have hl9 := z1.lt
        clear hks hb9 hbt hbw hn9 z1 HE8 HN8 HB8 HC6 HD6
        go_upto_region 22 with fail
        clear f0 f1 g0 g1
        generalize hW8 : ((w9.alloc (.cells #[.bool (readyP true l).1.only?, .slice D1 r1 s1, .slice D2 r2 s2] 26)).setCell ⟨w4.heap.size + 1, 0, none⟩ (.int .i64 0)).setCell ⟨w4.heap.size + 1, 1, none⟩ (.int .i64 0) = W10 at *
        have hW9 := HS1.out
        rw [← hW9] at HD9 HE9 HC9 HDD HBW HNC HND
        clear hW8 hW9 HS1
        have b0 := Blk.below X0.out HBW.out X0.out.lt
        have b1 := Blk.below X1'.out HBW.out X1'.out.lt
        have b2 := Blk.below X2.out HBW.out X2.out.lt
        have b3 := Blk.below X3.out HBW.out X3.out.lt
        have u0 : W10.cell? ⟨w2.heap.size, 0, none⟩ = some (.bool (readyP false l).1.only?) := b0.cell 0
        have u1 : W10.cell? ⟨w2.heap.size, 1, none⟩ = some (.slice A1 n1 c1) := b0.cell 1
        have u2 : W10.cell? ⟨w2.heap.size, 2, none⟩ = some (.slice A2 n2 c2) := b0.cell 2
        have u3 : W10.cell? ⟨w2.heap.size + 1, 0, none⟩ = some (.int .i64 0) := b1.cell 0
        have u4 : W10.cell? ⟨w4.heap.size + 1, 0, none⟩ = some (.int .i64 0) := b3.cell 0
        have u5 : W10.cell? ⟨w7.heap.size, 0, none⟩ = some (.bool (readyP false l).1.only?) := HNC.out.cell 0
        have u6 : W10.cell? ⟨w7.heap.size, 1, none⟩ = some (.slice C1 p1 q1) := HNC.out.cell 1
        have u7 : W10.cell? ⟨w7.heap.size, 2, none⟩ = some (.slice C2 p2 q2) := HNC.out.cell 2
        have HSM := Lib.hid (script_same _ _ _ W10 _ _ HC9.out HE9.out)
        have HB2' := Lib.hid b2
        have HBF := Lib.hid (HBE.out.trans (HBW.out.mono HBE.out.size))
        clear b0 b1 b2 b3 HC9 HE9 HNC X0 X1' X2 X3
        go_wp2_with fail
        refine HSM.out.mono ?_
        rintro e w11 ⟨rfl, hb11⟩
        have c0 := Blk.below HB2'.out hb11 HB2'.out.lt
        have c1' := Blk.below HND.out hb11 HND.out.lt
        have t0 : w11.cell? ⟨w4.heap.size, 0, none⟩ = some (.bool (readyP true l).1.only?) := c0.cell 0
        have t1 : w11.cell? ⟨w4.heap.size, 1, none⟩ = some (.slice B1 m1 d1) := c0.cell 1
        have t2 : w11.cell? ⟨w4.heap.size, 2, none⟩ = some (.slice B2 m2 d2) := c0.cell 2
        have t3 : w11.cell? ⟨w9.heap.size, 0, none⟩ = some (.bool (readyP true l).1.only?) := c1'.cell 0
        have t4 : w11.cell? ⟨w9.heap.size, 1, none⟩ = some (.slice D1 r1 s1) := c1'.cell 1
        have t5 : w11.cell? ⟨w9.heap.size, 2, none⟩ = some (.slice D2 r2 s2) := c1'.cell 2
        have HSM2 := Lib.hid (script_same _ _ _ w11 _ _ (HDD.out.keep (Keeps.below (X' := fun _ => True) hb11 (fun _ _ _ => trivial))) (HD9.out.keep (Keeps.below (X' := fun _ => True) hb11 (fun _ _ _ => trivial))))
        have HBG := Lib.hid (HBF.out.trans (hb11.mono HBF.out.size))
        clear hb11 c0 c1' u0 u1 u2 u3 u4 u5 u6 u7 HDD HD9 HND HSM HBF
        go_wp2_with fail
        refine HSM2.out.mono ?_
        rintro e w12 ⟨rfl, hb12⟩
        have HBH := Lib.hid (HBG.out.trans (hb12.mono HBG.out.size))
        clear hb12 t0 t1 t2 t3 t4 t5
        go_wp2_with fail
        go_ret
        exact ⟨rfl, HBH.out⟩
  · have s1 : (F1 != 0) = true := by simpa using hF
    clear hF
    go_wp2_with fail
    go_ret
    exact ⟨rfl, HBL.out⟩

end Go.Proofs.Ythcjiainpaebfaa
