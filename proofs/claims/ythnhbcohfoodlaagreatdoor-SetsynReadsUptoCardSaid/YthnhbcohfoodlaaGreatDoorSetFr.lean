/- Where the reading of a set stands; what is made of it so far is kept by its own function. -/
import Derived.Test.YthnhbcohfoodlaaGreatDoorCurClass
namespace Go.Proofs.YthnhbcohfoodlaaGreatDoor
open Go.RowKit

/-- The cursor's runes do not lie in a block that holds one value that is no number. -/
theorem CurAt.apart {w : World} {C G : Nat} {A : Option Addr} {n c : Nat} {L : List Int} {i : Nat} {t : TypeId} {v : Value} (h : CurAt w C A n c L i) (hG : Blk w G t #[v]) (hv : ∀ x, v ≠ .int .i32 x) : RdX w (fun b => b ≠ C ∧ b ≠ G) 1 A n (runeCells L) := by
  refine ⟨h.row.1, fun hn => ?_⟩
  obtain ⟨b, off, e, hb, hl, hc⟩ := h.row.2 hn
  refine ⟨b, off, e, ⟨hb, fun he => ?_⟩, hl, hc⟩
  subst he
  have hlen := h.len
  obtain ⟨x, hx⟩ : ∃ x, L[0]? = some x := ⟨_, List.getElem?_eq_getElem (by omega)⟩
  have h1 := hc 0 (.int .i32 x) (by rw [runeCells_at, hx]; rfl)
  rw [hG.cell] at h1
  rcases off with _ | off
  · simp at h1
    exact hv x h1
  · simp at h1
theorem CurAt.set {w : World} {C G : Nat} {A : Option Addr} {n c : Nat} {L : List Int} {i : Nat} {t : TypeId} {v : Value} (h : CurAt w C A n c L i) (hG : Blk w G t #[v]) (hv : ∀ x, v ≠ .int .i32 x) (hne : C ≠ G) (u : Value) : CurAt (w.setCell ⟨G, 0, none⟩ u) C A n c L i := by
  have hk : But w G (w.setCell ⟨G, 0, none⟩ u) := But.set _ _ _ _
  exact ⟨h.blk.same (hk.2.2.2.2 C h.blk.lt hne), (h.apart hG hv).keep (hk.keeps (fun b h => h.2) (fun b h _ => h.1)), h.size, h.le, h.cap⟩

/-- A set is being read: the cursor at j; block P points to it, block G holds what is read so far, s, which lies in new memory. -/
structure SetFr (w : World) (C P G : Nat) (A : Option Addr) (n c : Nat) (L : List Int) (j : Nat) (s : Spans) (wr : World) : Prop where
  cur : CurAt wr C A n c L j
  box : Blk wr P 60 #[.pointer (some ⟨C, 0, none⟩)]
  set : ∃ B m d, Blk wr G 22 #[.slice B m d] ∧ RdX wr (fun b => b ≠ C ∧ b ≠ P ∧ b ≠ G ∧ w.heap.size ≤ b) 2 B m (spanCells s) ∧ m ≤ d
  right : RightSet s
  but : But w C wr
  lo : C < w.heap.size ∧ w.heap.size ≤ P ∧ w.heap.size ≤ G ∧ P ≠ G
section
variable {w wr w' : World} {C P G : Nat} {A : Option Addr} {n c : Nat} {L : List Int} {j : Nat} {s : Spans}
theorem SetFr.keepB (h : SetFr w C P G A n c L j s wr) (hb : But wr C w') {k : Nat} (hc : CurAt w' C A n c L k) : SetFr w C P G A n c L k s w' := by
  obtain ⟨B, m, d, h1, h2, h3⟩ := h.set
  obtain ⟨l1, l2, l3, l4⟩ := h.lo
  exact ⟨hc, (hb.2.2.2.2 P h.box.lt (by omega)).trans h.box, ⟨B, m, d, (hb.2.2.2.2 G h1.lt (by omega)).trans h1, h2.keep (hb.keeps (fun b h => h.1) (fun b h _ => h)), h3⟩, h.right, h.but.trans hb, h.lo⟩
theorem SetFr.below (h : SetFr w C P G A n c L j s wr) (hb : Below wr.heap.size wr w') : SetFr w C P G A n c L j s w' := h.keepB (But.below C hb) (h.cur.below hb)
theorem SetFr.drew (h : SetFr w C P G A n c L j s wr) : SetFr w C P G A n c L j s wr.drew := h.below ((Below.refl _ _).drew)
/-- What is made is put there. -/
theorem SetFr.put (h : SetFr w C P G A n c L j s wr) {t : Spans} {B : Option Addr} {m d : Nat} (hr : RdX wr (fun b => b ≠ C ∧ b ≠ P ∧ b ≠ G ∧ w.heap.size ≤ b) 2 B m (spanCells t)) (hd : m ≤ d) (ht : RightSet t) :
    SetFr w C P G A n c L j t (wr.setCell ⟨G, 0, none⟩ (.slice B m d)) := by
  obtain ⟨B0, m0, d0, h1, h2, h3⟩ := h.set
  obtain ⟨l1, l2, l3, l4⟩ := h.lo
  have hk : But wr G (wr.setCell ⟨G, 0, none⟩ (.slice B m d)) := But.set _ _ _ _
  refine ⟨h.cur.set h1 (fun x e => by cases e) (by omega) _, (hk.2.2.2.2 P h.box.lt l4).trans h.box, ⟨B, m, d, h1.put 0 _, hr.keep (hk.keeps (fun b h => h.2.2.1) (fun b h _ => h)), hd⟩, ht, ?_, h.lo⟩
  exact ⟨Nat.le_trans h.but.1 hk.1, hk.2.1.trans h.but.2.1, hk.2.2.1.trans h.but.2.2.1, hk.2.2.2.1.trans h.but.2.2.2.1, fun b hb hne => (hk.2.2.2.2 b (Nat.lt_of_lt_of_le hb h.but.1) (by omega)).trans (h.but.2.2.2.2 b hb hne)⟩
end
/-- A set that has been read behind the frame, and what stands there: two arguments of an operator. -/
theorem SetFr.arg {w wr : World} {C P G : Nat} {A : Option Addr} {n c : Nat} {L : List Int} {j : Nat} {s : Spans} (h : SetFr w C P G A n c L j s wr) {B : Option Addr} {m d : Nat} (hb : Blk wr G 22 #[.slice B m d]) : SetArg wr B m d s := by
  obtain ⟨B0, m0, d0, h1, h2, h3⟩ := h.set
  have e : #[Value.slice B m d] = #[.slice B0 m0 d0] := by
    unfold Blk at hb h1
    rw [hb] at h1
    injection h1 with h1
    injection h1
  have e2 : Value.slice B m d = .slice B0 m0 d0 := by simpa using e
  cases e2
  exact ⟨h.right, h2.of, h3⟩
/-- Behind a part: its set. -/
theorem SetFr.part {w wx w1 : World} {C P G : Nat} {A : Option Addr} {n c : Nat} {L : List Int} {j j2 : Nat} {s t : Spans} {e : Ending} (h : SetFr w C P G A n c L j s wx) (ht : RightSet t) (hp : SetPost wx C A n c L (.ok (t, j2)) e w1) :
    ∃ B m d, e = .returned (.slice B m d) ∧ SetFr w C P G A n c L j2 s w1 ∧ SetArg w1 B m d t ∧ But wx C w1 := by
  obtain ⟨⟨B, m, d, rfl, hr, hd⟩, hc, hb⟩ := hp
  exact ⟨B, m, d, rfl, h.keepB hb hc, ⟨ht, hr.of, hd⟩, hb⟩
theorem SetFr.gblk {w wx w1 : World} {C P G : Nat} {A : Option Addr} {n c : Nat} {L : List Int} {j : Nat} {s : Spans} {cs : Array Value} {t : TypeId} (h : SetFr w C P G A n c L j s wx) (hb : But wx C w1) (hG : Blk wx G t cs) : Blk w1 G t cs :=
  (hb.2.2.2.2 G hG.lt (by have := h.lo; omega)).trans hG
theorem SetFr.pblk {w wx : World} {C P G : Nat} {A : Option Addr} {n c : Nat} {L : List Int} {j : Nat} {s : Spans} (h : SetFr w C P G A n c L j s wx) : wx.cell? ⟨P, 0, none⟩ = some (.pointer (some ⟨C, 0, none⟩)) := h.box.cell 0
/-- Behind an operator. -/
theorem SetFr.op {w w1 w2 : World} {C P G : Nat} {A : Option Addr} {n c : Nat} {L : List Int} {j : Nat} {s : Spans} {r : Spans × Int} {e : Ending} (h : SetFr w C P G A n c L j s w1) (hp : SetTuple w1 r e w2) :
    ∃ B m d, e = .returned (.tuple #[.slice B m d, .int .i64 r.2]) ∧ SetFr w C P G A n c L j s w2 ∧ RdX w2 (fun b => b ≠ C ∧ b ≠ P ∧ b ≠ G ∧ w.heap.size ≤ b) 2 B m (spanCells r.1) ∧ m ≤ d ∧ Below w1.heap.size w1 w2 := by
  obtain ⟨B, m, d, rfl, h1, _, h2, h3⟩ := hp
  refine ⟨B, m, d, rfl, h.below h3, h1.lift (fun b hb => ?_), h2, h3⟩
  obtain ⟨B0, m0, d0, g1, _⟩ := h.set
  have l1 := h.cur.blk.lt
  have l2 := h.box.lt
  have l3 := g1.lt
  have l4 := h.but.1
  exact ⟨by omega, by omega, by omega, by omega⟩

set_option maxHeartbeats 1600000 in
theorem keep_ok (B : Option Addr) (m d P G : Nat) (v : Value) (w : World) (hG : Blk w G 22 #[v]) :
    Calls Tryz.prog 76 (#[.slice B m d, .int .i64 0] ++ #[.pointer (some ⟨P, 0, none⟩), .pointer (some ⟨G, 0, none⟩)]) w fun e w' => e = .returned (.tuple #[]) ∧ w' = w.setCell ⟨G, 0, none⟩ (.slice B m d) := by
  have c0 := hG.cell 0
  have f0 := hG.frozen 0
  clear hG
  go_enter Tryz.func76, Tryz.ntmps76
  go_wp2_with fail
  go_end0
  exact ⟨rfl, rfl⟩
set_option maxHeartbeats 1600000 in
theorem keep_err (B : Option Addr) (m d C P G : Nat) (A : Option Addr) (n c : Nat) (L : List Int) (j : Nat) (x : Int) (w : World) (hx : x ≠ 0) (hP : Blk w P 60 #[.pointer (some ⟨C, 0, none⟩)]) (hC : CurAt w C A n c L j) :
    Calls Tryz.prog 76 (#[.slice B m d, .int .i64 x] ++ #[.pointer (some ⟨P, 0, none⟩), .pointer (some ⟨G, 0, none⟩)]) w fun e w' => e = thrown x j ∧ w' = w := by
  have c0 := hP.cell 0
  have d0 := hC.blk.cell 1
  have hx2 : (x != 0) = true := by simp; exact hx
  have HF := Lib.hid (fun (W : World) => syn_fail x j W)
  clear hP hC hx
  go_enter Tryz.func76, Tryz.ntmps76
  go_wp2_with fail
  refine (HF.out _).mono ?_
  rintro e w3 ⟨rfl, rfl⟩
  go_wp2_with fail
  exact ⟨rfl, rfl, rfl⟩

end Go.Proofs.YthnhbcohfoodlaaGreatDoor
