/- Caught -/
import Derived.Test.YthnhbcohfoodlaaGreatDoorZq27
import Derived.Defers
import Derived.Recover
set_option maxHeartbeats 1600000
set_option maxRecDepth 100000
namespace Go.Proofs.YthnhbcohfoodlaaGreatDoor
open Go.RowKit
theorem xW (W : World) (v : Value) : (Instr.typeAssert (.iface 126 v) 20 126 true).run Tryz.prog W = .ok (.tuple #[v, .bool true]) W := by kernel_rfl
theorem yf (f : Addr) (w : World) :
    CallsD Tryz.prog 35 #[.pointer (some f)] .returning w fun e u' w' => e = .returned (.tuple #[]) ∧ u' = .returning ∧ w' = w := by
 refine callsD_of_wpS Tryz.func35 rfl fun c₀ cs hu => ?_;apply wpS_seq;apply wpS_region;simp [wpOpsS, go_sem, recoverD, hu, Tryz.ntmps35, Exit.thenS];refine wpS_of_wp ?_;go_wp2_with fail;cases c₀;simp_all [bodyPostS, results, Tryz.results35]
theorem tw (f : Nat) (x p a b : Int) (t : TypeId) (older : List PanicEntry) (w : World) (hf : aM w f t #[.int .i64 a, .int .i64 b]) :
    CallsD Tryz.prog 35 #[.pointer (some ⟨f, 0, none⟩)] (.panicking ({ v := .iface 126 (.agg #[.int .i64 x, .int .i64 p]), recovered := false } :: older)) w fun e u' w' =>
      e = .returned (.tuple #[]) ∧ u' = .panicking ({ v := .iface 126 (.agg #[.int .i64 x, .int .i64 p]), recovered := true } :: older) ∧ aM w' f t #[.int .i64 x, .int .i64 p] ∧ aF w f w' := by
 have f0 := hf.frozen 0;have f1 := hf.frozen 1;have c0 := hf.cell 0;have c1 := hf.cell 1;refine callsD_of_wpS Tryz.func35 rfl fun c₀ cs hu => ?_;apply wpS_seq;apply wpS_region;simp [wpOpsS, go_sem, recoverD, hu, Tryz.ntmps35, Exit.thenS];refine wpS_of_wp ?_;have e (V : Value) : (#[Value.pointer (some ⟨f, 0, none⟩)] ++ (Array.replicate 14 undef).setIfInBounds 4 V) = #[.pointer (some ⟨f, 0, none⟩), undef, undef, undef, undef, V, undef, undef, undef, undef, undef, undef, undef, undef, undef] := rfl;rw [e];have hlt := hf.lt;have U9 := fun (W : World) (v : Value) => xW W v;go_wp2_with fail;have hB : aM (((w.setCell ⟨f, 0, none⟩ (.int .i64 x)).setCell ⟨f, 1, none⟩ (.int .i64 p)).alloc (.cells #[.int .i64 x, .int .i64 p] 126)) f t #[.int .i64 x, .int .i64 p] := ((hf.put 0 _).put 1 _).alloc _;have hS : aF w f (((w.setCell ⟨f, 0, none⟩ (.int .i64 x)).setCell ⟨f, 1, none⟩ (.int .i64 p)).alloc (.cells #[.int .i64 x, .int .i64 p] 126)) := ((aF.set w f 0 _).trans (aF.set _ f 1 _)).trans (aF.below f ((Below.refl _ _).alloc (Nat.le_refl _) _));simp [bodyPostS, results, Tryz.results35, hB, hS]
end Go.Proofs.YthnhbcohfoodlaaGreatDoor
