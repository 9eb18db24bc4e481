/- The walk of scriptref2.Edges. -/
import Derived.Test.YtebpmfejhfkagaaEdges
namespace Go.Proofs.Ytebpmfejhfkagaa
open Go.RowKit

def edgesAll (L : List Spans) : List Int := (L.flatMap edgesS).foldl putP [0]
theorem put_st {lo g : Nat} {E : List Int} (r : Int) {w : World} (h : EdgeSt lo g E w) (hE : E.Pairwise (· < ·)) (h0 : E ≠ []) (hl : E.length ≤ 1000000) (hlo : lo ≤ w.heap.size) :
    Calls Try.prog 29 (#[.int .i32 r] ++ #[.pointer (some ⟨g, 0, none⟩)]) w fun e w' => e = .returned (.tuple #[]) ∧ EdgeSt lo g (putP E r) w' ∧ But w g w' := by
  obtain ⟨A, n, c, h1, h2, h3⟩ := h
  have hlen : E.length = n := by have := h2.1; rw [runeCells_length] at this; omega
  have hpos : 0 < n := by rw [← hlen]; exact List.length_pos_iff.2 h0
  obtain ⟨b, off, rfl, hb, hbl, _⟩ := h2.2 hpos
  exact put_edge lo g b off n c E r w hE hlo h1 h2 hbl hb (by omega) h3
theorem EdgeSt.below {lo g : Nat} {E : List Int} {w w' : World} (h : EdgeSt lo g E w) (hb : Below w.heap.size w w') : EdgeSt lo g E w' := by
  obtain ⟨A, n, c, h1, h2, h3⟩ := h
  exact ⟨A, n, c, Blk.below h1 hb h1.lt, h2.keep (Keeps.any hb), h3⟩
theorem putP_ne {E : List Int} (r : Int) (h : E ≠ []) : putP E r ≠ [] := by
  have := (putP_len E r).1
  have h2 := List.length_pos_iff.2 h
  exact List.length_pos_iff.1 (by omega)
/-- The state of the walk: the edges so far, E, and what is still to come, xs. -/
structure EgAt (w : World) (L : List Spans) (b : Nat) (xs : List Int) (wr : World) : Prop where
  ex : ∃ E : List Int, EdgeSt w.heap.size (w.heap.size + 1) E wr ∧ E.Pairwise (· < ·) ∧ E ≠ [] ∧ E.length ≤ b ∧ edgesAll L = xs.foldl putP E
  below : Below w.heap.size w wr
theorem EgAt.next {w wr : World} {L : List Spans} {b : Nat} {x : Int} {xs : List Int} (h : EgAt w L b (x :: xs) wr) (hb : b ≤ 1000000) :
    Calls Try.prog 29 (#[.int .i32 x] ++ #[.pointer (some ⟨w.heap.size + 1, 0, none⟩)]) wr fun e w' => e = .returned (.tuple #[]) ∧ EgAt w L (b + 1) xs w' ∧ But wr (w.heap.size + 1) w' := by
  obtain ⟨⟨E, h1, h2, h3, h4, h5⟩, h6⟩ := h
  refine (put_st x h1 h2 h3 (by omega) h6.size).mono ?_
  rintro e w' ⟨rfl, h7, h8⟩
  refine ⟨rfl, ⟨⟨putP E x, h7, putP_rise h2 x, putP_ne x h3, by have := (putP_len E x).2; omega, h5⟩, ?_⟩, h8⟩
  exact h6.trans (h8.to h6.size (by omega))
theorem EgAt.alloc {w wr : World} {L : List Spans} {b : Nat} {xs : List Int} (h : EgAt w L b xs wr) (o : Obj) : EgAt w L b xs (wr.alloc o) := by
  obtain ⟨⟨E, h1, h2, h3, h4, h5⟩, h6⟩ := h
  exact ⟨⟨E, h1.below ((Below.refl _ _).alloc (Nat.le_refl _) o), h2, h3, h4, h5⟩, h6.alloc h6.size o⟩

theorem EgAt.lt {w wr : World} {L : List Spans} {b : Nat} {xs : List Int} (h : EgAt w L b xs wr) : w.heap.size + 1 < wr.heap.size := by
  obtain ⟨⟨E, ⟨A, n, c, h1, _⟩, _⟩, _⟩ := h
  exact h1.lt
theorem EgAt.cell {w wr : World} {L : List Spans} {b : Nat} (h : EgAt w L b [] wr) : ∃ A n c, Blk wr (w.heap.size + 1) 40 #[.slice A n c] ∧ RdX wr (fun b => w.heap.size ≤ b) 1 A n (runeCells (edgesAll L)) := by
  obtain ⟨⟨E, ⟨A, n, c, h1, h2, _⟩, _, _, _, h5⟩, _⟩ := h
  rw [h5]
  exact ⟨A, n, c, h1, h2.keep (Keeps.refl (fun _ h => h.2))⟩

def EoRel (w : World) (L : List Spans) (n : Nat) (i : Value) (wr : World) : Prop :=
  ∃ j : Nat, j ≤ n ∧ i = .int .i64 j ∧ EgAt w L (1 + 400 * j) ((L.drop j).flatMap edgesS) wr
def EiRel (w : World) (L : List Spans) (s : Spans) (j n : Nat) (i : Value) (wr : World) : Prop :=
  ∃ k : Nat, k ≤ n ∧ i = .int .i64 k ∧ EgAt w L (1 + 400 * j + 2 * k) (edgesS (s.drop k) ++ (L.drop (j + 1)).flatMap edgesS) wr

set_option maxRecDepth 100000 in
set_option maxHeartbeats 1600000 in
theorem ref_edges (X : Nat → Prop) (L : List Spans) (A : Option Addr) (n c : Nat) (w : World) (hn : n ≤ 200) (hS : ∀ s ∈ L, RightSet s) (hL : ListX (SetC w X) w X 1 A n L) :
    Calls Try.prog 19 #[.slice A n c] w fun e w' => (∃ A' n' c', e = .returned (.slice A' n' c') ∧ RdX w' (fun b => w.heap.size ≤ b) 1 A' n' (runeCells (edgesAll L))) ∧ Below w.heap.size w w' := by
  have HLEN := Lib.hid (show L.length = n from hL.len)
  have HL := Lib.hid hL
  have HS := Lib.hid hS
  have H0 := Lib.hid (show EgAt w L (1 + 400 * 0) ((L.drop 0).flatMap edgesS) ((w.alloc (.cells #[.int .i32 0] 21)).alloc (.cells #[.slice (some ⟨w.heap.size, 0, none⟩) 1 1] 40)) by
    refine ⟨⟨[0], ⟨some ⟨w.heap.size, 0, none⟩, 1, 1, ?_, ?_, Nat.le_refl _⟩, by simp, by simp, by simp, rfl⟩, ((Below.refl _ _).alloc (Nat.le_refl _) _).alloc (by simp) _⟩
    · have := Blk.new (w.alloc (.cells #[.int .i32 0] 21)) 40 #[.slice (some ⟨w.heap.size, 0, none⟩) 1 1]
      simpa using this
    · have h1 := RdX.new (w := w) (X := fun b => b ≠ w.heap.size + 1 ∧ w.heap.size ≤ b) (sz := 1) (n := 1) 21 [.int .i32 0] rfl ⟨by omega, Nat.le_refl _⟩
      exact h1.keep (Keeps.any ((Below.refl _ _).alloc (Nat.le_refl _) _)))
  clear hL hS
  go_enter Try.func19, Try.ntmps19
  go_wp2_with fail
  go_loopw [13] (EoRel w L n) (fun i _ => n - (intOf i).toNat)
  case atStart => exact ⟨0, Nat.zero_le _, rfl, H0.out⟩
  case round =>
    obtain ⟨j, hj, rfl, hst⟩ := hrel
    have HST := Lib.hid hst
    by_cases hlt : j < n
    · obtain ⟨s, hs⟩ : ∃ z, L[j]? = some z := ⟨_, List.getElem?_eq_getElem (by rw [HLEN.out]; exact hlt)⟩
      obtain ⟨b, off, A', n', c', rfl, _, hbb, hcx0, hrd, _, hnn⟩ := sets_at HL.out hs
      have hcx := (hst.below.cell (p := ⟨b, off + j, none⟩) hbb).trans hcx0
      have HR := Lib.hid (HS.out s (List.mem_of_getElem? hs))
      have HSN := Lib.hid (show s.length = n' from hrd.len)
      have hn' : n' ≤ 200 := by rw [← HSN.out]; exact HR.out.size
      have HRD := Lib.hid hrd
      have HI := Lib.hid (show EgAt w L (1 + 400 * j + 2 * 0) (edgesS (s.drop 0) ++ (L.drop (j + 1)).flatMap edgesS) wr by
        have := HST.out
        rw [drop_at hs, List.flatMap_cons] at this
        exact this)
      clear hs hrd hst HST hcx0
      go_wp2_with fail
      go_loopw [19] (EiRel w L s j n') (fun i _ => n' - (intOf i).toNat)
      case atStart => exact ⟨0, Nat.zero_le _, rfl, HI.out⟩
      case round =>
        obtain ⟨k, hk, rfl, hst⟩ := hrel
        by_cases hk2 : k < n'
        · obtain ⟨⟨x, y⟩, hx⟩ : ∃ z, s[k]? = some z := ⟨_, List.getElem?_eq_getElem (by rw [HSN.out]; exact hk2)⟩
          obtain ⟨b2, off2, rfl, hb2, c0, c1⟩ := HRD.out.at hx
          have d0 := (hst.below.cell (p := ⟨b2, off2 + k * 2, none⟩) hb2).trans c0
          have d1 := (hst.below.cell (p := ⟨b2, off2 + k * 2 + 1, none⟩) hb2).trans c1
          have hxy := HR.out.each (x, y) (List.mem_of_getElem? hx)
          simp only at hxy
          rw [drop_at hx, show edgesS ((x, y) :: s.drop (k + 1)) = x :: (y + 1) :: edgesS (s.drop (k + 1)) from rfl] at hst
          have hgl := hst.lt
          have HST := Lib.hid (hst.alloc (.cells #[.int .i32 x, .int .i32 y] 46))
          have HBX := Lib.hid (Blk.new wr 46 #[.int .i32 x, .int .i32 y])
          clear hx c0 c1 hst
          go_wp2_with fail
          refine (HST.out.next (by omega)).mono ?_
          rintro e w1 ⟨rfl, hst1, hbut⟩
          have hb1 : Blk w1 wr.heap.size 46 #[.int .i32 x, .int .i32 y] := (hbut.2.2.2.2 _ HBX.out.lt (by omega)).trans HBX.out
          have e1 : w1.cell? ⟨wr.heap.size, 1, none⟩ = some (.int .i32 y) := hb1.cell 1
          have HST1 := Lib.hid hst1
          clear hst1 hbut hb1
          go_wp2_with fail
          refine (HST1.out.next (by omega)).mono ?_
          rintro e w2 ⟨rfl, hst2, _⟩
          have HST2 := Lib.hid (show EgAt w L (1 + 400 * j + 2 * (k + 1)) (edgesS (s.drop (k + 1)) ++ (L.drop (j + 1)).flatMap edgesS) w2 from hst2)
          clear hst2
          go_wp2_with fail
          exact ⟨⟨k + 1, by omega, by go_num, HST2.out⟩, by simp [intOf]; omega⟩
        · obtain rfl : k = n' := by omega
          have HST := Lib.hid (show EgAt w L (1 + 400 * (j + 1)) ((L.drop (j + 1)).flatMap edgesS) wr by
            obtain ⟨⟨E, h1, h2, h3, h4, h5⟩, h6⟩ := hst
            rw [List.drop_of_length_le (by rw [HSN.out]; exact Nat.le_refl _)] at h5
            exact ⟨⟨E, h1, h2, h3, by omega, h5⟩, h6⟩)
          clear hst
          go_wp2_with fail
          exact ⟨⟨j + 1, by omega, by go_num, HST.out⟩, by simp [intOf]; omega⟩
    · obtain rfl : j = n := by omega
      rw [List.drop_of_length_le (by rw [HLEN.out]; exact Nat.le_refl _)] at hst
      obtain ⟨A', n', c', h1, h2⟩ := hst.cell
      have d0 : wr.cell? ⟨w.heap.size + 1, 0, none⟩ = some (.slice A' n' c') := h1.cell 0
      have HB := Lib.hid hst.below
      have H2 := Lib.hid h2
      clear h1 h2 hst HST
      go_wp2_with fail
      go_ret
      exact ⟨⟨A', n', c', rfl, H2.out⟩, HB.out⟩

end Go.Proofs.Ytebpmfejhfkagaa
