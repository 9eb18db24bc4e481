/- The walk of vm.Trace: of rules and a text it tells the steps of the run. -/
import Derived.Test.YtfmebbnccjaadaaAlignP
namespace Go.Proofs.Ytfmebbnccjaadaa
open Go.RowKit

/-- Locals: blocks that are known whole. -/
def Loc (w : World) (l : List (Nat × TypeId × Array Value)) : Prop := ∀ x ∈ l, Blk w x.1 x.2.1 x.2.2
section
variable {w w' : World} {l : List (Nat × TypeId × Array Value)}
theorem Loc.nil (w : World) : Loc w [] := fun _ h => by cases h
theorem Loc.below (h : Loc w l) (hb : Below w.heap.size w w') : Loc w' l := fun x hx => Blk.below (h x hx) hb (h x hx).lt
theorem Loc.new (h : Loc w l) (t : TypeId) (cs : Array Value) : Loc (w.alloc (.cells cs t)) ((w.heap.size, t, cs) :: l) := by
  intro x hx
  rcases List.mem_cons.1 hx with rfl | hx
  · exact Blk.new _ _ _
  · exact (h x hx).alloc _
theorem Loc.one (h : Loc w l) (i : Nat) {x : Nat × TypeId × Array Value} (hi : l[i]? = some x) : Blk w x.1 x.2.1 x.2.2 := h x (List.mem_of_getElem? hi)
end
def tracePo (l : List RuleD) (t : List Int) : List (Int × Int) × (Int × Int) := if (playP l t).2.1 ≠ 0 then ([], (playP l t).2) else (traceP l t, (0, 0))
def TrPost (lo : Nat) (w' : World) (o : List (Int × Int) × (Int × Int)) (e : Ending) : Prop :=
  ∃ (A : Option Addr) (n c : Nat), e = .returned (.tuple #[.slice A n c, .agg #[.int .i64 o.2.1, .int .i64 o.2.2]]) ∧ RdX w' (fun b => lo ≤ b) 2 A n (shotCells o.1) ∧ n ≤ 100000

set_option maxRecDepth 100000 in
set_option maxHeartbeats 1600000 in
theorem vm_trace (X : Nat → Prop) (l : List RuleD) (Ar : Option Addr) (nr cr : Nat) (t : List Int) (At : Option Addr) (nt ct : Nat) (w : World) (hnr : nr ≤ maxLen) (hl : ListX (RuleC w X) w X 7 Ar nr l) (hnt : nt ≤ maxLen) (ht : RdR w w.heap.size At nt t) :
    Calls Try.prog 46 #[.slice Ar nr cr, .slice At nt ct] w fun e w' => TrPost w.heap.size w' (tracePo l t) e ∧ Below w.heap.size w w' := by
  have hb0 := ((Below.refl w.heap.size w).alloc (Nat.le_refl _) (.cells #[.int .i64 0, .int .i64 0] 28)).alloc (by simp) (.cells #[.slice none 0 0] 88)
  have HX0 := Lib.hid (Blk.alloc (Blk.new w 28 #[.int .i64 0, .int .i64 0]) (.cells #[.slice none 0 0] 88))
  have HY0 := Lib.hid (show Blk ((w.alloc (.cells #[.int .i64 0, .int .i64 0] 28)).alloc (.cells #[.slice none 0 0] 88)) (w.heap.size + 1) 88 #[.slice none 0 0] by
    have := Blk.new (w.alloc (.cells #[.int .i64 0, .int .i64 0] 28)) 88 #[.slice none 0 0]
    simpa using this)
  have HB0 := Lib.hid hb0
  have HL0 := Lib.hid (hl.keep (X' := fun b => b < w.heap.size) (fun b _ hlt => ⟨hb0.block b hlt, hlt, Nat.lt_of_lt_of_le hlt hb0.size⟩) (fun _ _ => RuleC.keep (X' := fun b => b < w.heap.size) (fun b _ hlt => ⟨hb0.block b hlt, hlt, Nat.lt_of_lt_of_le hlt hb0.size⟩)))
  have HT0 := Lib.hid ((Rd.below ht hb0).more hb0.size)
  clear hb0 hl ht
  go_enter Try.func46, Try.ntmps46
  go_upto_region 2 with fail
  generalize (w.alloc (.cells #[.int .i64 0, .int .i64 0] 28)).alloc (.cells #[.slice none 0 0] 88) = W0 at *
  have HP := Lib.hid (vm_playt (w.heap.size + 1) (fun b => b < w.heap.size) l Ar nr cr t At nt ct W0 hnr HL0.out (fun b hb => by omega) HY0.out hnt HT0.out)
  have hw0 := HY0.out.lt
  have hw0' := HB0.out.size
  go_wp2_with fail
  refine HP.out.mono ?_
  rintro e w1 ⟨⟨A, n, c, rfl, _⟩, hgr, hok⟩
  obtain ⟨⟨xt, s, p⟩, f1, f2, hP⟩ : ∃ o f1 f2, playP l t = (o, (f1, f2)) := ⟨_, _, _, rfl⟩
  have HPO := Lib.hid (show tracePo l t = if f1 ≠ 0 then ([], (f1, f2)) else (traceP l t, (0, 0)) by unfold tracePo; rw [hP])
  have HOK := Lib.hid (show f1 = 0 → _ from fun h => hok (by rw [hP]; exact h))
  rw [hP]
  dsimp only
  have HX1 := Lib.hid (show Blk w1 w.heap.size 28 #[.int .i64 0, .int .i64 0] from (hgr.block _ HX0.out.lt (by simp)).trans HX0.out)
  have HB1 := Lib.hid (show Below w.heap.size w w1 from HB0.out.trans ⟨hgr.os, hgr.tape, hgr.output, hgr.size, fun k hk => hgr.block k (by omega) (by simp; omega)⟩)
  have hs1 := hgr.size
  clear hok hP hgr HP HX0 HB0 HL0 HT0
  by_cases hz : f1 = 0
  · subst hz
    obtain ⟨v, hg, ho, hn⟩ := HOK.out rfl
    have HG := Lib.hid (HPO.out.trans (if_neg (fun h => h rfl)))
    have hba := (((Below.refl w1.heap.size w1).alloc (Nat.le_refl _) (.cells #[.slice A n c, .int .i64 s, .int .i64 p] 25)).alloc (by simp) (.cells #[.int .i64 0, .int .i64 f2] 28))
    have HG2 := Lib.hid (Blk.below hg hba hg.lt)
    have HO2 := Lib.hid (own_below ho hba)
    have HX2 := Lib.hid (Blk.below HX1.out hba HX1.out.lt)
    have HB2 := Lib.hid (HB1.out.trans (hba.mono HB1.out.size))
    have HF2 := Lib.hid (show Blk ((w1.alloc (.cells #[.slice A n c, .int .i64 s, .int .i64 p] 25)).alloc (.cells #[.int .i64 0, .int .i64 f2] 28)) (w1.heap.size + 1) 28 #[.int .i64 0, .int .i64 f2] by
      have := Blk.new (w1.alloc (.cells #[.slice A n c, .int .i64 s, .int .i64 p] 25)) 28 #[.int .i64 0, .int .i64 f2]
      simpa using this)
    clear hg hba HPO HOK
    obtain ⟨Av, cv, rfl, _⟩ := own_form ho
    clear ho
    go_upto_region 3 with fail
    generalize (w1.alloc (.cells #[.slice A n c, .int .i64 s, .int .i64 p] 25)).alloc (.cells #[.int .i64 0, .int .i64 f2] 28) = W2 at *
    have q0 := HF2.out.cell 0
    have g0 : W2.cell? ⟨w.heap.size + 1, 0, none⟩ = some (.slice Av (traceP l t).length cv) := HG2.out.cell 0
    have x0 := HX2.out.cell 0
    have x1 := HX2.out.cell 1
    have p0 := HX2.out.frozen 0
    have p1 := HX2.out.frozen 1
    have hbf := (HB2.out.setCell (p := ⟨w.heap.size, 0, none⟩) (by simp) (.int .i64 0)).setCell (p := ⟨w.heap.size, 1, none⟩) (by simp) (.int .i64 0)
    have hw9 := HG2.out.lt
    have h5 := own_set_low (own_set_low HO2.out (p := ⟨w.heap.size, 0, none⟩) (by simp only; omega) (.int .i64 0)) (p := ⟨w.heap.size, 1, none⟩) (by simp only; omega) (.int .i64 0)
    have HR := Lib.hid (show RdX ((W2.setCell ⟨w.heap.size, 0, none⟩ (.int .i64 0)).setCell ⟨w.heap.size, 1, none⟩ (.int .i64 0)) (fun b => w.heap.size ≤ b) 2 Av (traceP l t).length (shotCells (traceP l t)) from
      RdX.of_own h5 (fun b hb => Nat.le_trans hw0' (own_lt h5 hb).1))
    have HBF := Lib.hid hbf
    clear hbf h5
    go_wp2_with fail
    rw [HG.out]
    exact bodyPost_ret (v := .tuple #[.slice Av (traceP l t).length cv, .agg #[.int .i64 0, .int .i64 0]]) (by simp [results, Try.results46, go_sem, x0, x1]) rfl ⟨⟨Av, _, cv, rfl, HR.out, hn⟩, HBF.out⟩
  · have HG := Lib.hid (HPO.out.trans (if_pos hz))
    have hba := (((Below.refl w1.heap.size w1).alloc (Nat.le_refl _) (.cells #[.slice A n c, .int .i64 s, .int .i64 p] 25)).alloc (by simp) (.cells #[.int .i64 f1, .int .i64 f2] 28))
    have HX2 := Lib.hid (Blk.below HX1.out hba HX1.out.lt)
    have HB2 := Lib.hid (HB1.out.trans (hba.mono HB1.out.size))
    have HF2 := Lib.hid (show Blk ((w1.alloc (.cells #[.slice A n c, .int .i64 s, .int .i64 p] 25)).alloc (.cells #[.int .i64 f1, .int .i64 f2] 28)) (w1.heap.size + 1) 28 #[.int .i64 f1, .int .i64 f2] by
      have := Blk.new (w1.alloc (.cells #[.slice A n c, .int .i64 s, .int .i64 p] 25)) 28 #[.int .i64 f1, .int .i64 f2]
      simpa using this)
    clear hba HPO HOK
    go_upto_region 3 with fail
    generalize (w1.alloc (.cells #[.slice A n c, .int .i64 s, .int .i64 p] 25)).alloc (.cells #[.int .i64 f1, .int .i64 f2] 28) = W2 at *
    have q0 := HF2.out.cell 0
    have q1 := HF2.out.cell 1
    have x0 := HX2.out.cell 0
    have x1 := HX2.out.cell 1
    have p0 := HX2.out.frozen 0
    have p1 := HX2.out.frozen 1
    have hne1 : ¬ w.heap.size = w1.heap.size + 1 := by omega
    have hne2 : ¬ w1.heap.size + 1 = w.heap.size := by omega
    have hbf := ((HB2.out.setCell (p := ⟨w.heap.size, 0, none⟩) (by simp) (.int .i64 f1)).setCell (p := ⟨w.heap.size, 1, none⟩) (by simp) (.int .i64 f2)).drew
    have HBF := Lib.hid hbf
    clear hbf
    go_wp2_with fail
    go_region
    all_goals
      go_wp2_with fail
      rw [HG.out]
      exact bodyPost_ret (v := .tuple #[.slice none 0 0, .agg #[.int .i64 f1, .int .i64 f2]]) (by simp [results, Try.results46, go_sem, x0, x1]) rfl ⟨⟨none, 0, 0, rfl, ⟨rfl, fun h => absurd h (Nat.lt_irrefl 0)⟩, Nat.zero_le _⟩, HBF.out⟩

end Go.Proofs.Ytfmebbnccjaadaa
