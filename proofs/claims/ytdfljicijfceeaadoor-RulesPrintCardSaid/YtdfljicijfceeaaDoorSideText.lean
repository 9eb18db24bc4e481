/- A side as text: rulesyn.written is the side's words with a blank between them. -/
import Derived.Test.YtdfljicijfceeaaDoorJoinLaw
import Derived.Test.YtdfljicijfceeaaDoorSideWords
import Derived.Test.YtdfljicijfceeaaDoorWrittenS
import Derived.Test.YtdfljicijfceeaaDoorWrittenB
import Derived.Test.YtdfljicijfceeaaDoorWrittenN
namespace Go.Proofs.YtdfljicijfceeaaDoor
open Go.RowKit Go.Shelf

theorem words_none {l : List ItemD} : wordsP l (-1) = [] ↔ l.length = 0 := by
  rw [← wordsGo_minus l 0]
  unfold wordsP
  simp
theorem J_small {l : List ItemD} {cursor : Int} (h : itemsP l = 0) : (J (wordsP l cursor)).length ≤ 200000 := by
  obtain ⟨h20, hall⟩ := items_ok h
  obtain ⟨h1, h2⟩ := wordsGo_ok cursor l 0 hall
  have := join_len (wordsP l cursor) 4300 h2
  have h3 : (wordsP l cursor).length * 4301 ≤ 41 * 4301 := Nat.mul_le_mul_right _ (by unfold wordsP; omega)
  unfold J
  omega

set_option maxHeartbeats 1000000 in
theorem rulesyn_written (s : SideD) (A1 A2 A3 : Option Addr) (n1 n2 n3 c1 c2 c3 : Nat) (w : World) (h1 : RdIt w w.heap.size A1 n1 s.before) (h2 : RdIt w w.heap.size A2 n2 s.source) (h3 : RdIt w w.heap.size A3 n3 s.after)
    (k1 : itemsP s.before = 0) (k2 : itemsP s.source = 0) (k3 : itemsP s.after = 0) (hd : w.cell? ⟨5, 15, none⟩ = some (.int .u8 4)) (hlt : 5 < w.heap.size) :
    Calls Tryd.prog 10 #[.agg #[.bool s.start, .bool s.fin, .slice A1 n1 c1, .slice A2 n2 c2, .slice A3 n3 c3, .int .i64 s.cursor]] w fun e w' => e = .returned (.string ⟨(J (sideW s)).toArray⟩) ∧ Below w.heap.size w w' := by
  obtain ⟨start, fin, before, source, after, cursor⟩ := s
  dsimp only at *
  have i1 := fun (w' : World) (hb : Below w.heap.size w w') => rulesyn_items A1 n1 c1 before (-1) w' (RdIt.weak (weak_of hb hb.size) h1) k1 ((hb.cell hlt).trans hd) (Nat.lt_of_lt_of_le hlt hb.size)
  have i2 := fun (w' : World) (hb : Below w.heap.size w w') => rulesyn_items A2 n2 c2 source cursor w' (RdIt.weak (weak_of hb hb.size) h2) k2 ((hb.cell hlt).trans hd) (Nat.lt_of_lt_of_le hlt hb.size)
  have i3 := fun (w' : World) (hb : Below w.heap.size w w') => rulesyn_items A3 n3 c3 after (-1) w' (RdIt.weak (weak_of hb hb.size) h3) k3 ((hb.cell hlt).trans hd) (Nat.lt_of_lt_of_le hlt hb.size)
  have hn1 := RdL.len h1
  have hn3 := RdL.len h3
  have X1 := solid_wordsP (cursor := -1) k1
  have X2 := solid_wordsP (cursor := cursor) k2
  have X3 := solid_wordsP (cursor := -1) k3
  have y1 := J_small (cursor := -1) k1
  have y2 := J_small (cursor := cursor) k2
  have y3 := J_small (cursor := -1) k3
  have e1 := words_none (l := before)
  have e3 := words_none (l := after)
  have c94 : ([94] : Word) ≠ [] := by simp
  have c123 : ([123] : Word) ≠ [] := by simp
  have c125 : ([125] : Word) ≠ [] := by simp
  have c36 : ([36] : Word) ≠ [] := by simp
  have done : ∀ (a b : List Word), Sim a b → sideW ⟨start, fin, before, source, after, cursor⟩ = b → Lib.join a [32] = J (sideW ⟨start, fin, before, source, after, cursor⟩) := fun a b h e => by rw [e]; exact h.1
  unfold J at y1 y2 y3
  cases start
  · rcases Nat.eq_zero_or_pos n1 with p1 | p1
    · subst p1
      cases fin
      · rcases Nat.eq_zero_or_pos n3 with p3 | p3
        · subst p3
          refine (written_nn A1 A2 A3 n2 c1 c2 c3 cursor _ _ _ w i1 i2 i3 y1 y2 y3).mono ?_
          rintro e w' ⟨rfl, hb⟩
          refine ⟨?_, hb⟩
          rw [done _ _ ((((Sim.refl ([] : List Word)).more X1).more X2).more X3) ?_]
          unfold sideW
          dsimp only
          have z1 : wordsP before (-1) = [] := e1.2 hn1
          have z3 : wordsP after (-1) = [] := e3.2 hn3
          simp [z1, z3, hn3]
        · refine (written_nb A1 A2 A3 n2 n3 c1 c2 c3 cursor _ _ _ w p3 i1 i2 i3 y1 y2 y3).mono ?_
          rintro e w' ⟨rfl, hb⟩
          refine ⟨?_, hb⟩
          rw [done _ _ (((((Sim.refl ([] : List Word)).more X1).more X2).one c125).more X3) ?_]
          unfold sideW
          dsimp only
          have z1 : wordsP before (-1) = [] := e1.2 hn1
          have z3 : 0 < after.length := by omega
          simp [z1, z3]
      · refine (written_ns A1 A2 A3 n2 n3 c1 c2 c3 cursor _ _ _ w i1 i2 i3 y1 y2 y3).mono ?_
        rintro e w' ⟨rfl, hb⟩
        refine ⟨?_, hb⟩
        rw [done _ _ ((((((Sim.refl ([] : List Word)).more X1).more X2).one c125).more X3).one c36) ?_]
        unfold sideW
        dsimp only
        have z1 : wordsP before (-1) = [] := e1.2 hn1
        simp [z1]
    · cases fin
      · rcases Nat.eq_zero_or_pos n3 with p3 | p3
        · subst p3
          refine (written_bn A1 A2 A3 n1 n2 c1 c2 c3 cursor _ _ _ w p1 i1 i2 i3 y1 y2 y3).mono ?_
          rintro e w' ⟨rfl, hb⟩
          refine ⟨?_, hb⟩
          rw [done _ _ (((((Sim.refl ([] : List Word)).more X1).one c123).more X2).more X3) ?_]
          unfold sideW
          dsimp only
          have z1 : wordsP before (-1) ≠ [] := fun h => by have := e1.1 h; omega
          have z3 : wordsP after (-1) = [] := e3.2 hn3
          simp [z1, z3, hn3]
        · refine (written_bb A1 A2 A3 n1 n2 n3 c1 c2 c3 cursor _ _ _ w p1 p3 i1 i2 i3 y1 y2 y3).mono ?_
          rintro e w' ⟨rfl, hb⟩
          refine ⟨?_, hb⟩
          rw [done _ _ ((((((Sim.refl ([] : List Word)).more X1).one c123).more X2).one c125).more X3) ?_]
          unfold sideW
          dsimp only
          have z1 : wordsP before (-1) ≠ [] := fun h => by have := e1.1 h; omega
          have z3 : 0 < after.length := by omega
          simp [z1, z3]
      · refine (written_bs A1 A2 A3 n1 n2 n3 c1 c2 c3 cursor _ _ _ w p1 i1 i2 i3 y1 y2 y3).mono ?_
        rintro e w' ⟨rfl, hb⟩
        refine ⟨?_, hb⟩
        rw [done _ _ (((((((Sim.refl ([] : List Word)).more X1).one c123).more X2).one c125).more X3).one c36) ?_]
        unfold sideW
        dsimp only
        have z1 : wordsP before (-1) ≠ [] := fun h => by have := e1.1 h; omega
        simp [z1]
  · cases fin
    · rcases Nat.eq_zero_or_pos n3 with p3 | p3
      · subst p3
        refine (written_sn A1 A2 A3 n1 n2 c1 c2 c3 cursor _ _ _ w i1 i2 i3 y1 y2 y3).mono ?_
        rintro e w' ⟨rfl, hb⟩
        refine ⟨?_, hb⟩
        rw [done _ _ ((((((Sim.refl ([] : List Word)).one c94).more X1).one c123).more X2).more X3) ?_]
        unfold sideW
        dsimp only
        have z3 : wordsP after (-1) = [] := e3.2 hn3
        simp [z3, hn3]
      · refine (written_sb A1 A2 A3 n1 n2 n3 c1 c2 c3 cursor _ _ _ w p3 i1 i2 i3 y1 y2 y3).mono ?_
        rintro e w' ⟨rfl, hb⟩
        refine ⟨?_, hb⟩
        rw [done _ _ (((((((Sim.refl ([] : List Word)).one c94).more X1).one c123).more X2).one c125).more X3) ?_]
        unfold sideW
        dsimp only
        have z3 : 0 < after.length := by omega
        simp [z3]
    · refine (written_ss A1 A2 A3 n1 n2 n3 c1 c2 c3 cursor _ _ _ w i1 i2 i3 y1 y2 y3).mono ?_
      rintro e w' ⟨rfl, hb⟩
      refine ⟨?_, hb⟩
      rw [done _ _ ((((((((Sim.refl ([] : List Word)).one c94).more X1).one c123).more X2).one c125).more X3).one c36) ?_]
      unfold sideW
      dsimp only
      simp []

end Go.Proofs.YtdfljicijfceeaaDoor
