/- What sorting and compacting make of the edges of rules: the document's edges, and maybe one more behind the last rune. -/
import Derived.Test.YtfmebbnccjaadaaCompact
import Derived.Test.YtfmebbnccjaadaaHeads
namespace Go.Proofs.Ytfmebbnccjaadaa
open Go.RowKit

theorem sorted_edges {rs : List Int} {n : Nat} {d' : Array Int} (hn : rs.length = n) (hp : Sort.PermIn 0 n rs.toArray d') (hs : Sort.SortedIn Sort.ltInt 0 n d') :
    (Lib.compactUpTo d' n).Pairwise (· < ·) ∧ ∀ x, x ∈ Lib.compactUpTo d' n ↔ x ∈ rs := by
  refine ⟨compact_rise hs, fun x => ?_⟩
  obtain ⟨h1, _, h3⟩ := hp
  have hsz : d'.size = n := by rw [h1]; simpa using hn
  have e1 : (d'.extract 0 n).toList = d'.toList := by rw [← hsz]; simp
  have e2 : (rs.toArray.extract 0 n).toList = rs := by rw [← hn]; simp
  rw [e1, e2] at h3
  rw [compact_mem, ← h3.mem_iff]
  constructor
  · rintro ⟨j, hj, rfl⟩
    rw [getElem!_pos d' j (by omega)]
    simp
  · intro hx
    obtain ⟨j, hj, rfl⟩ := List.mem_iff_getElem.1 hx
    have hj' : j < d'.size := by simpa using hj
    exact ⟨j, by omega, by rw [getElem!_pos d' j hj']; simp⟩
theorem edges_of {l : List RuleD} (hR : ∀ x ∈ l, RightSet (firstSet x)) {E : List Int} (h1 : E.Pairwise (· < ·)) (h2 : ∀ x, x ∈ E ↔ x ∈ 0 :: edgesL l) : E = edgeP l ∨ E = edgeP l ++ [1114112] := by
  by_cases hm : (1114112 : Int) ∈ edgesL l
  · right
    refine rising_eq h1 ?_ (fun x => ?_)
    · refine List.pairwise_append.2 ⟨edgeP_rise l, by simp, fun a ha b hb => ?_⟩
      simp at hb
      subst hb
      rcases (edgeP_mem l a).1 ha with rfl | ⟨_, h⟩
      · decide
      · omega
    · rw [h2, List.mem_append, edgeP_mem, List.mem_cons, List.mem_singleton]
      constructor
      · rintro (h | h)
        · exact .inl (.inl h)
        · by_cases hx : x ≤ 1114111
          · exact .inl (.inr ⟨h, hx⟩)
          · have := edgesL_mem hR x h
            exact .inr (by omega)
      · rintro ((h | ⟨h, _⟩) | rfl)
        · exact .inl h
        · exact .inr h
        · exact .inr hm
  · left
    refine rising_eq h1 (edgeP_rise l) (fun x => ?_)
    rw [h2, edgeP_mem, List.mem_cons]
    constructor
    · rintro (h | h)
      · exact .inl h
      · have := edgesL_mem hR x h
        by_cases hx : x = 1114112
        · subst hx; exact absurd h hm
        · exact .inr ⟨h, by omega⟩
    · rintro (h | ⟨h, _⟩)
      · exact .inl h
      · exact .inr h
/-- The program's edges E against the document's. -/
theorem edges_at {l : List RuleD} {E : List Int} (h : E = edgeP l ∨ E = edgeP l ++ [1114112]) {j : Nat} {r : Int} (hr : E[j]? = some r) :
    (r ≤ 1114111 → (edgeP l)[j]? = some r ∧ gapEnd (edgeP l) j = (match E[j + 1]? with | some y => y - 1 | none => 1114111)) ∧ (1114111 < r → j = (edgeP l).length) := by
  have hle : ∀ x ∈ edgeP l, x ≤ 1114111 := by
    intro x hx
    rcases (edgeP_mem l x).1 hx with rfl | ⟨_, h⟩
    · decide
    · exact h
  rcases h with rfl | rfl
  · refine ⟨fun _ => ⟨hr, rfl⟩, fun h => ?_⟩
    have := hle r (List.mem_of_getElem? hr)
    omega
  · rcases Nat.lt_or_ge j (edgeP l).length with hlt | hge
    · have hr' := hr
      rw [List.getElem?_append_left hlt] at hr'
      refine ⟨fun _ => ⟨hr', ?_⟩, fun h => ?_⟩
      · unfold gapEnd
        rcases Nat.lt_or_ge (j + 1) (edgeP l).length with h1 | h1
        · rw [List.getElem?_append_left h1]
          cases (edgeP l)[j + 1]? <;> rfl
        · rw [List.getElem?_append_right h1, List.getElem?_eq_none h1, show j + 1 - (edgeP l).length = 0 by omega]
          rfl
      · have := hle r (List.mem_of_getElem? hr')
        omega
    · have hlen := (List.getElem?_eq_some_iff.1 hr).1
      rw [List.length_append, List.length_singleton] at hlen
      have hj : j = (edgeP l).length := by omega
      rw [List.getElem?_append_right hge, hj, Nat.sub_self] at hr
      simp at hr
      subst hr
      exact ⟨fun h => absurd h (by decide), fun _ => hj⟩
theorem rowAt_of_own {w : World} {base g n c : Nat} {t : TypeId} {rs : List Int} (h : w.ownsRow base t 1 (.slice (some ⟨g, 0, none⟩) n c) n (runeCells rs)) : RowAt w g 0 rs.toArray := by
  have hl := h.1
  rw [runeCells_length] at hl
  rcases h.2 with ⟨h', _⟩ | ⟨g', cap', cur, h', hb, hg, hnc, hcm, hcs, htake⟩
  · simp at h'
  · simp only [Value.slice.injEq, Option.some.injEq, Addr.mk.injEq, and_true, true_and] at h'
    obtain ⟨rfl, rfl⟩ := h'
    refine ⟨cur, t, hg, fun j hj => ?_⟩
    have hj' : j < rs.length := by simpa using hj
    have h1 : (runeCells rs)[j]? = some (.int .i32 rs[j]) := by rw [runeCells_at, List.getElem?_eq_getElem hj']; rfl
    rw [← htake, List.getElem?_take, if_pos (by omega)] at h1
    rw [Nat.zero_add, getElem!_pos rs.toArray j hj]
    simpa using h1
theorem rdR_of_row {w : World} {g n : Nat} {d : Array Int} {E : List Int} (h : RowAt w g 0 d) (hd : d.toList.take E.length = E) (hn : E.length = n) : RdR w w.heap.size (some ⟨g, 0, none⟩) n E := by
  obtain ⟨c, t, hb, hc⟩ := h
  refine ⟨by rw [runeCells_length]; omega, fun _ => ⟨g, 0, rfl, hb.lt, fun j u hu => ?_⟩⟩
  rw [runeCells_at] at hu
  obtain ⟨x, hx, rfl⟩ := Option.map_eq_some_iff.1 hu
  have hjE := (List.getElem?_eq_some_iff.1 hx).1
  rw [← hd, List.getElem?_take, if_pos hjE] at hx
  have hx' : d[j]? = some x := by simpa using hx
  have hj := (Array.getElem?_eq_some_iff.1 hx').1
  rw [hb.cell, hc j hj, getElem!_pos d j hj]
  have := (Array.getElem?_eq_some_iff.1 hx').2
  rw [this]
theorem Rest.to {w w1 : World} {g B : Nat} (h : Rest w g w1) (hB : B ≤ w.heap.size) (hg : B ≤ g) : Below B w w1 := ⟨h.2.1, h.2.2.1, h.2.2.2.1, h.1, fun k hk => h.2.2.2.2 k (by omega) (by omega)⟩
theorem edgesL_snoc {l : List RuleD} {k : Nat} {x : RuleD} (h : l[k]? = some x) : edgesL (l.take (k + 1)) = edgesL (l.take k) ++ edgesS (firstSet x) := by
  rw [List.take_add_one, h]
  simp [edgesL]
theorem edgesS_snoc {s : Spans} {k : Nat} {x y : Int} (h : s[k]? = some (x, y)) : edgesS (s.take (k + 1)) = edgesS (s.take k) ++ [x, y + 1] := by
  rw [List.take_add_one, h]
  simp [edgesS]

end Go.Proofs.Ytfmebbnccjaadaa
