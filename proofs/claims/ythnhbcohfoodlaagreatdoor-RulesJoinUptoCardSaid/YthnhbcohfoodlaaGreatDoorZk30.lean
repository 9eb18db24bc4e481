/- WholeBox -/
import Derived.Test.YthnhbcohfoodlaaGreatDoorZk28
import Derived.Deep.WholeRow
namespace Go.Proofs.YthnhbcohfoodlaaGreatDoor
open Go.RowKit
theorem row_blk {w : World} {g : Nat} {t : TypeId} {c c' : Array Value} (h : Blk w g t c) : Blk (w.setRow g c') g t c' := setRow_heap w g c c' t (0, 0) h
theorem row_but (w : World) (g : Nat) (c : Array Value) : But w g (w.setRow g c) := ⟨by simp, rfl, rfl, rfl, fun k _ hne => setRow_other w g k c hne⟩
section
variable {ops : Array Oper} {rest : List Oper} {o : Oper} {a : Act} {w : World} {Q : Exit → Act → World → Prop} {ty t : TypeId} {x y : Operand} {g : Nat}
theorem wpList_load_row {cs : Array Value} (hgd : o.guard = none) (ho : o.op = .load ty x) (hu : ∃ fs, Tryz.prog.underlying ty = some (.struct fs)) (hi : (Tryz.prog.info? ty).map (·.size) = some cs.size)
    (hx : a.eval x = .pointer (some ⟨g, 0, none⟩)) (hb : Blk w g t cs) (h : wpList Tryz.prog ops Q rest (a.put o.dst (.agg cs)) w) : wpList Tryz.prog ops Q (o :: rest) a w := by
  obtain ⟨fs, hu⟩ := hu
  refine wpList_plain hgd fun K hK => ?_
  have hr : (execOp a.eval o).run Tryz.prog w = .ok (.value (.agg cs)) w := by
    unfold execOp
    rw [ho]
    simp only [hx, Instr.loadAt, Instr.sureAddr, Sem.run_bind, Sem.run_pure, Result.andThen, run_loadVar_row w g t ty cs (0, 0) (.struct fs) hb hu rfl hi]
  unfold Oper.wp
  rw [hr]
  exact hK _ _ h
theorem wpList_store_row {c vs : Array Value} (hgd : o.guard = none) (ho : o.op = .store ty x y) (hi : (Tryz.prog.info? ty).map (·.size) = some vs.size) (hs : c.size = vs.size) (h1 : vs.all (·.oneCell') = true)
    (hx : a.eval x = .pointer (some ⟨g, 0, none⟩)) (hy : a.eval y = .agg vs) (hb : Blk w g t c) (h : wpList Tryz.prog ops Q rest (a.put o.dst undef) (w.setRow g vs)) : wpList Tryz.prog ops Q (o :: rest) a w := by
  refine wpList_plain hgd fun K hK => ?_
  have hr : (execOp a.eval o).run Tryz.prog w = .ok .skip (w.setRow g vs) := by
    unfold execOp
    rw [ho]
    simp only [hx, hy, Instr.storeAt, Instr.sureAddr, Sem.run_bind, Sem.run_pure, Result.andThen, run_storeVar_row w g t ty c vs hb hi hs h1]
  unfold Oper.wp
  rw [hr]
  exact hK _ _ h
theorem step_store_row {K : Act → World → Prop} {E : Prop} {c vs : Array Value} (hgd : o.guard = none) (ho : o.op = .store ty x y) (hi : (Tryz.prog.info? ty).map (·.size) = some vs.size) (hs : c.size = vs.size) (h1 : vs.all (·.oneCell') = true)
    (hx : a.eval x = .pointer (some ⟨g, 0, none⟩)) (hy : a.eval y = .agg vs) (hb : Blk w g t c) (h : K (a.put o.dst undef) (w.setRow g vs)) : if Region.wanted o (yielded ops a.tmps) = true then Oper.wp Tryz.prog o a w K Q else E := by
  have hw : Region.wanted o (yielded ops a.tmps) = true := by simp [Region.wanted, hgd]
  rw [if_pos hw]
  have hr : (execOp a.eval o).run Tryz.prog w = .ok .skip (w.setRow g vs) := by
    unfold execOp
    rw [ho]
    simp only [hx, hy, Instr.storeAt, Instr.sureAddr, Sem.run_bind, Sem.run_pure, Result.andThen, run_storeVar_row w g t ty c vs hb hi hs h1]
  unfold Oper.wp
  rw [hr]
  exact h
theorem results_row {fn : Func} {p : Tmp} {tmps : Array Value} {cs : Array Value} (h : fn.results = #[.cell p ty]) (hp : tmps.getD p undef = .pointer (some ⟨g, 0, none⟩)) (hu : ∃ fs, Tryz.prog.underlying ty = some (.struct fs)) (hi : (Tryz.prog.info? ty).map (·.size) = some cs.size) (hb : Blk w g t cs) :
    (results fn tmps).run Tryz.prog w = .ok (.agg cs) w := by
  obtain ⟨fs, hu⟩ := hu
  have hl := run_loadVar_row w g t ty cs (0, 0) (.struct fs) hb hu rfl hi
  have hp2 : tmps[p]?.getD undef = .pointer (some ⟨g, 0, none⟩) := by simpa using hp
  simp only [results, h]
  simp [hp2, asAddr, hl]
end
end Go.Proofs.YthnhbcohfoodlaaGreatDoor
