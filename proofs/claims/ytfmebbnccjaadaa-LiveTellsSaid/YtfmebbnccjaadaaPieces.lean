/- Pieces: runs of runes that are meant, and others one by one, plain and in memory: rows that the call owns, no two alike. The walk of scriptref13.Pieces. -/
import Derived.Test.YtfmebbnccjaadaaRefPass
import Derived.OneCell
namespace Go.Proofs.Ytfmebbnccjaadaa
open Go.RowKit

abbrev Pc := List Int × Bool
def lastIn (acc : List Pc) : Bool := match acc.getLast? with | some p => p.2 | none => false
def extL (acc : List Pc) (x : Int) : List Pc := match acc.getLast? with | some p => acc.dropLast ++ [(p.1 ++ [x], p.2)] | none => []
def pushP (s : ScriptD) (acc : List Pc) (x : Int) : List Pc := if meant s x = true ∧ lastIn acc = true then extL acc x else acc ++ [([x], meant s x)]
def piecesP (s : ScriptD) (t : List Int) : List Pc := t.foldl (pushP s) []
theorem lastIn_snoc (a : List Pc) (p : Pc) : lastIn (a ++ [p]) = p.2 := by unfold lastIn; simp
theorem extL_snoc (a : List Pc) (p : Pc) (x : Int) : extL (a ++ [p]) x = a ++ [(p.1 ++ [x], p.2)] := by unfold extL; simp
theorem pushP_ext {s : ScriptD} {a : List Pc} {pc : List Int} {x : Int} (h : meant s x = true) : pushP s (a ++ [(pc, true)]) x = a ++ [(pc ++ [x], true)] := by
  rw [pushP, if_pos ⟨h, by rw [lastIn_snoc]⟩, extL_snoc]
theorem pushP_new {s : ScriptD} {a : List Pc} {x : Int} {b : Bool} (hb : meant s x = b) (h : ¬ (b = true ∧ lastIn a = true)) : pushP s a x = a ++ [([x], b)] := by
  rw [pushP, hb, if_neg h]
theorem pieces_succ {s : ScriptD} {t : List Int} {k : Nat} {x : Int} (h : t[k]? = some x) : (t.take (k + 1)).foldl (pushP s) [] = pushP s ((t.take k).foldl (pushP s) []) x := by
  rw [List.take_add_one, h, List.foldl_append]
  rfl

/-- The pieces so far: v6 is the row of slices, v7 the row of bools; each piece is a row of its own. -/
structure PcSt (lo : Nat) (v6 v7 : Value) (acc : List Pc) (m : Nat) (us : List Value) (w : World) : Prop where
  o6 : w.ownsRow lo 23 1 v6 m us
  o7 : w.ownsRow lo 4 1 v7 m (acc.map fun p => .bool p.2)
  len : acc.length = m
  own : ∀ (i : Nat) (p : Pc) (u : Value), acc[i]? = some p → us[i]? = some u → w.ownsRow lo 21 1 u p.1.length (runeCells p.1)
  blk : ∀ (i : Nat) (u : Value), us[i]? = some u → ∃ g, u.ownBlock = some g
  ne : ∀ (i j : Nat) (u u' : Value), i < j → us[i]? = some u → us[j]? = some u' → u.ownBlock ≠ u'.ownBlock
theorem PcSt.ul {lo : Nat} {v6 v7 : Value} {acc : List Pc} {m : Nat} {us : List Value} {w : World} (h : PcSt lo v6 v7 acc m us w) : us.length = m := by have := h.o6.1; omega
theorem PcSt.go {lo : Nat} {v6 v7 : Value} {acc : List Pc} {m : Nat} {us : List Value} {w w' : World} (h : PcSt lo v6 v7 acc m us w) (hb : Below w.heap.size w w') : PcSt lo v6 v7 acc m us w' :=
  ⟨own_below h.o6 hb, own_below h.o7 hb, h.len, fun i p u h1 h2 => own_below (h.own i p u h1 h2) hb, h.blk, h.ne⟩
theorem own_one (w : World) (lo : Nat) (u : Value) (T : TypeId) (hlo : lo ≤ w.heap.size) : (w.alloc (.cells #[u] T)).ownsRow lo T 1 (.slice (some ⟨w.heap.size, 0, none⟩) 1 1) 1 [u] :=
  ⟨rfl, .inr ⟨w.heap.size, 1, #[u], rfl, hlo, heap_alloc_new w _, Nat.le_refl _, by simp [maxLen], rfl, rfl⟩⟩
theorem get_snoc {α : Type} {l : List α} {x y : α} {i : Nat} (h : (l ++ [x])[i]? = some y) : (i < l.length ∧ l[i]? = some y) ∨ (i = l.length ∧ y = x) := by
  rcases Nat.lt_or_ge i l.length with hi | hi
  · rw [List.getElem?_append_left hi] at h
    exact .inl ⟨hi, h⟩
  · rw [List.getElem?_append_right hi] at h
    have h0 : i - l.length = 0 := by
      have := (List.getElem?_eq_some_iff.1 h).1
      simp at this
      omega
    rw [h0] at h
    simp at h
    exact .inr ⟨by omega, h.symm⟩
/-- A new piece: its row, then the row of slices, then the row of bools. -/
theorem PcSt.push {lo : Nat} {v6 v7 v6' : Value} {acc : List Pc} {m : Nat} {us : List Value} {w w2 : World} (h : PcSt lo v6 v7 acc m us w) (hlo : lo ≤ w.heap.size) {x : Int} {b : Bool}
    (happ : Appended lo 23 1 v6 ((w.alloc (.cells #[.int .i32 x] 21)).alloc (.cells #[.slice (some ⟨w.heap.size, 0, none⟩) 1 1] 23)) (m + 1) (us ++ [.slice (some ⟨w.heap.size, 0, none⟩) 1 1]) v6' w2)
    {w3 : World} (hb3 : Below w2.heap.size w2 w3) {v7' : Value} {w4 : World} (happ7 : Appended lo 4 1 v7 w3 (m + 1) ((acc.map fun p => .bool p.2) ++ [.bool b]) v7' w4) :
    PcSt lo v6' v7' (acc ++ [([x], b)]) (m + 1) (us ++ [.slice (some ⟨w.heap.size, 0, none⟩) 1 1]) w4 := by
  have hba := ((Below.refl w.heap.size w).alloc (Nat.le_refl _) (.cells #[.int .i32 x] 21)).alloc (by simp) (.cells #[.slice (some ⟨w.heap.size, 0, none⟩) 1 1] 23)
  have h1 := h.go hba
  have hnew : ((w.alloc (.cells #[.int .i32 x] 21)).alloc (.cells #[.slice (some ⟨w.heap.size, 0, none⟩) 1 1] 23)).ownsRow lo 21 1 (.slice (some ⟨w.heap.size, 0, none⟩) 1 1) 1 (runeCells [x]) :=
    World.ownsRow.alloc (own_one w lo (.int .i32 x) 21 hlo) _
  have ho7 : w3.ownsRow lo 4 1 v7 m (acc.map fun p => .bool p.2) := own_below (own_kept_other h1.o7 h1.o6 (by decide) happ) hb3
  refine ⟨?_, ?_, by simp [h.len], ?_, ?_, ?_⟩
  · exact own_kept_other (own_below happ.own hb3) ho7 (by decide) happ7
  · rw [List.map_append]
    exact happ7.own
  · intro i p u hp hu
    rcases get_snoc hp with ⟨hi, hp⟩ | ⟨hi, rfl⟩
    · rcases get_snoc hu with ⟨_, hu⟩ | ⟨hj, _⟩
      · exact own_kept_other (own_below (own_kept_other (h1.own i p u hp hu) h1.o6 (by decide) happ) hb3) ho7 (by decide) happ7
      · have := h.len; have := h.ul; omega
    · rcases get_snoc hu with ⟨hj, _⟩ | ⟨_, rfl⟩
      · have := h.len; have := h.ul; omega
      · exact own_kept_other (own_below (own_kept_other hnew h1.o6 (by decide) happ) hb3) ho7 (by decide) happ7
  · intro i u hu
    rcases get_snoc hu with ⟨_, hu⟩ | ⟨_, rfl⟩
    · exact h.blk i u hu
    · exact ⟨_, rfl⟩
  · intro i j u u' hij hu hu'
    rcases get_snoc hu' with ⟨hj, hu'⟩ | ⟨hj, rfl⟩
    · rcases get_snoc hu with ⟨_, hu⟩ | ⟨hi, _⟩
      · exact h.ne i j u u' hij hu hu'
      · omega
    · rcases get_snoc hu with ⟨_, hu⟩ | ⟨hi, _⟩
      · obtain ⟨g, hg⟩ := h.blk i u hu
        have hi : i < acc.length := by have := h.len; have := h.ul; have := (List.getElem?_eq_some_iff.1 hu).1; omega
        have := (Go.Proofs.Ytfmebbnccjaadaa.own_lt (h.own i _ u (List.getElem?_eq_getElem hi) hu) hg).2
        rw [hg]
        simp only [Value.ownBlock, ne_eq, Option.some.injEq]
        omega
      · omega
/-- The last piece grows. -/
theorem PcSt.ext {lo : Nat} {v7 : Value} {a : List Pc} {m n c6 g6 : Nat} {us : List Value} {w w2 : World} {pc : List Int} {b : Bool} {u u' : Value} {x : Int} (h : PcSt lo (.slice (some ⟨g6, 0, none⟩) (m + 1) c6) v7 (a ++ [(pc, b)]) (m + 1) (us ++ [u]) w)
    (hm : us.length = m) (hn : pc.length = n) (happ : Appended lo 21 1 u w (n + 1) (runeCells pc ++ runeCells [x]) u' w2) :
    PcSt lo (.slice (some ⟨g6, 0, none⟩) (m + 1) c6) v7 (a ++ [(pc ++ [x], b)]) (m + 1) (us ++ [u']) (w2.setCell ⟨g6, m, none⟩ u') ∧ w2.cell? ⟨g6, m, none⟩ = some u ∧ w2.frozen? ⟨g6, m, none⟩ = false := by
  have hal : a.length = m := by have := h.len; simp at this; omega
  have hu : (us ++ [u])[m]? = some u := by rw [List.getElem?_append_right (by omega), hm]; simp
  have hp : (a ++ [(pc, b)])[m]? = some (pc, b) := by rw [List.getElem?_append_right (by omega), hal]; simp
  have how := h.own m _ u hp hu
  have o6 := own_kept_other h.o6 how (by decide) happ
  have o7 := own_kept_other h.o7 how (by decide) happ
  have hst := o6.stored m u'
  rw [show (us ++ [u]).set m u' = us ++ [u'] by rw [List.set_append_right _ _ (by omega), hm]; simp] at hst
  obtain ⟨g, hg⟩ := h.blk m u hu
  have hg' : ∃ g', u'.ownBlock = some g' ∧ (g' = g ∨ g' = w.heap.size) := by
    rcases happ.2.2 with e | e
    · exact ⟨g, e.trans hg, .inl rfl⟩
    · exact ⟨_, e, .inr rfl⟩
  have ne6 : ∀ (v : Value) (k : Nat) (xs : List Value), w2.ownsRow lo 21 1 v k xs → v.ownBlock ≠ some g6 := by
    intro v k xs hv
    rcases ne_of_types hv o6 (by decide) with e | e
    · exact e
    · rw [e]; simp
  refine ⟨⟨hst.1, ?_, by simp [hal], ?_, ?_, ?_⟩, ?_, o6.frozenAt m⟩
  · refine ownsRow_setCell_other ?_ ?_ u'
    · simpa using o7
    · rcases ne_of_types o7 o6 (by decide) with e | e
      · exact e
      · rw [e]; simp
  · intro i p v hp' hv
    rcases get_snoc hp' with ⟨hi, hp'⟩ | ⟨hi, rfl⟩
    · rcases get_snoc hv with ⟨_, hv⟩ | ⟨hj, _⟩
      · have hv2 : (us ++ [u])[i]? = some v := by rw [List.getElem?_append_left (by omega)]; exact hv
        have h0 := h.own i p v (by rw [List.getElem?_append_left hi]; exact hp') hv2
        have h1 : w2.ownsRow lo 21 1 v p.1.length (runeCells p.1) := World.ownsRow.kept h0 happ.2.1 (.inr (h.ne i m v u (by omega) hv2 hu))
        exact ownsRow_setCell_other h1 (ne6 _ _ _ h1) u'
      · omega
    · rcases get_snoc hv with ⟨hj, _⟩ | ⟨_, rfl⟩
      · omega
      · have h1 : w2.ownsRow lo 21 1 v (pc ++ [x]).length (runeCells (pc ++ [x])) := by
          rw [runeCells_append, List.length_append, hn]
          exact happ.own
        exact ownsRow_setCell_other h1 (ne6 _ _ _ h1) v
  · intro i v hv
    rcases get_snoc hv with ⟨hi, hv⟩ | ⟨_, rfl⟩
    · exact h.blk i v (by rw [List.getElem?_append_left hi]; exact hv)
    · obtain ⟨g', e, _⟩ := hg'
      exact ⟨g', e⟩
  · intro i j v v' hij hv hv'
    rcases get_snoc hv' with ⟨hj, hv'⟩ | ⟨hj, rfl⟩
    · rcases get_snoc hv with ⟨hi, hv⟩ | ⟨hi, _⟩
      · exact h.ne i j v v' hij (by rw [List.getElem?_append_left hi]; exact hv) (by rw [List.getElem?_append_left hj]; exact hv')
      · omega
    · rcases get_snoc hv with ⟨hi, hv⟩ | ⟨hi, _⟩
      · have hv2 : (us ++ [u])[i]? = some v := by rw [List.getElem?_append_left hi]; exact hv
        obtain ⟨g', e, hg2⟩ := hg'
        rcases hg2 with rfl | rfl
        · rw [e, ← hg]
          exact h.ne i m v u (by omega) hv2 hu
        · obtain ⟨gi, hgi⟩ := h.blk i v hv2
          have hi2 : i < (a ++ [(pc, b)]).length := by simp; omega
          have := (Go.Proofs.Ytfmebbnccjaadaa.own_lt (h.own i _ v (List.getElem?_eq_getElem hi2) hv2) hgi).2
          rw [hgi, e]
          simp only [ne_eq, Option.some.injEq]
          omega
      · omega
  · rw [o6.cellAt m (by omega)]
    exact hu

end Go.Proofs.Ytfmebbnccjaadaa
