/- Builder + WriteStr + Join -/
import Derived.Test.YthnhbcohfoodlaaGreatDoorShelf
import Derived.Test.YthnhbcohfoodlaaGreatDoorZw5
import Derived.Lib.FrozenHead
import Derived.Lib.FrozenHead2
set_option maxHeartbeats 1000000
set_option maxRecDepth 100000
namespace Go.Proofs.YthnhbcohfoodlaaGreatDoor
open Go.RowKit Go.Shelf
abbrev KN (B b : Nat) (bs : List Value) (w : World) : Prop := Lib.IsBuilderF 78 5 B b bs w
abbrev NH (B b : Nat) (bs : List Value) (w : World) : Prop := Lib.BuilderAtF 78 5 B b (.pointer (some ⟨b, 0, none⟩)) bs w
abbrev Ji (b : Nat) (w w' : World) : Prop := Lib.OthersKept 5 (some b) w w'
theorem qf : (Tryz.prog.info? 78).map (·.size) = some 2 := by kernel_rfl
theorem yD : liesAt Tryz.prog Tryz.prog.depth 78 (2 / Tryz.prog.cellsOf 78) 0 78 1 = true := by kernel_rfl
theorem rH (b : Nat) (w : World) (h0 : w.cell? ⟨b, 0, none⟩ = some (.pointer none)) (hsh : w.shape? b = some (78, 2)) (hfz : w.frozen? ⟨b, 0, none⟩ = false) :
    Calls Tryz.prog 86 #[.pointer (some ⟨b, 0, none⟩)] w fun e w' => e = .returned (.tuple #[]) ∧ w' = w.setCell ⟨b, 0, none⟩ (.pointer (some ⟨b, 0, none⟩)) := by
 obtain ⟨j, hj, Yx⟩ := Option.map_eq_some_iff.1 qf;have hne := Lib.run_neq_ptr_same (P := Tryz.prog) (w.setCell ⟨b, 0, none⟩ (.pointer (some ⟨b, 0, none⟩))) ⟨b, 0, none⟩ Tryz.underlying75 hj;go_enter Tryz.func86, Tryz.ntmps86;go_wp2_with fail;rw [Lib.run_to_unsafe w ⟨b, 0, none⟩ Tryz.underlying75 Tryz.underlying175 hj (by rw [Yx]; decide) hsh (Nat.zero_lt_succ 1)];simp only [Result.andThen];rw [Oper.upon_value];go_wp2_with fail;rw [run_callFunc_extern Tryz.func140 (by kernel_rfl) (by kernel_rfl) (by kernel_rfl) (e := Extern.AbiNoEscape.same) (by kernel_rfl)];rw [Lib.run_noEscape];simp only [Result.andThen];rw [Oper.upon_value];go_wp2_with fail;rw [Lib.run_from_unsafe w ⟨b, 0, none⟩ Tryz.underlying175 Tryz.underlying75 hj hsh yD];simp only [Result.andThen];rw [Oper.upon_value];go_wp2;go_end0;exact ⟨rfl, rfl⟩
theorem tr (b : Nat) (w : World) (h0 : w.cell? ⟨b, 0, none⟩ = some (.pointer (some ⟨b, 0, none⟩))) :
    Calls Tryz.prog 86 #[.pointer (some ⟨b, 0, none⟩)] w fun e w' => e = .returned (.tuple #[]) ∧ w' = w := by
 obtain ⟨j, hj, _⟩ := Option.map_eq_some_iff.1 qf;have hne := Lib.run_neq_ptr_same (P := Tryz.prog) w ⟨b, 0, none⟩ Tryz.underlying75 hj;go_enter Tryz.func86, Tryz.ntmps86;go_wp2;go_end0;exact ⟨rfl, rfl⟩
theorem ux (B b : Nat) (bs : List Value) (w : World) (h : KN B b bs w) :
    Calls Tryz.prog 86 #[.pointer (some ⟨b, 0, none⟩)] w fun e w' => e = .returned (.tuple #[]) ∧ NH B b bs w' ∧ Below B w w' ∧ Ji b w w' := by
 rcases h with h | h
 ·refine (rH b w h.cell0 h.shape h.frozen0).mono ?_;rintro e w' ⟨rfl, rfl⟩;exact ⟨rfl, h.used _, (Below.refl B w).setCell (p := ⟨b, 0, none⟩) h.1 _, (Lib.OthersKept.refl _ _ w).setCell ⟨b, 0, none⟩ rfl _⟩
 refine (tr b w h.cell0).mono ?_;rintro e w' ⟨rfl, rfl⟩;exact ⟨rfl, h, Below.refl B _, Lib.OthersKept.refl _ _ _⟩
theorem byteCells_append (a b : List UInt8) : Lib.byteCells (a ++ b) = Lib.byteCells a ++ Lib.byteCells b := by simp [Lib.byteCells]
theorem sD (w : World) (B : Nat) (hB : B ≤ w.heap.size) : KN B w.heap.size [] (w.alloc (.cells #[.pointer none, .slice none 0 0] 78)) :=
  .inl ⟨hB, _, heap_alloc_new _ _, ⟨rfl, .inl ⟨rfl, rfl⟩⟩, by simp [Value.ownBlock]⟩
theorem zX : (Tryz.prog.info? 5).map (fun i => (i.zero, i.size, i.bytes)) = some (some (.int .u8 0), 1, 1) := by kernel_rfl
theorem fy (B b : Nat) (bs : List Value) (s : ByteArray) (w : World) (h : KN B b bs w) (hlen : bs.length + s.size ≤ 140737488355328) (hBw : B ≤ w.heap.size) :
    Calls Tryz.prog 46 #[.pointer (some ⟨b, 0, none⟩), .string s] w fun e w' => e = .returned (.tuple #[.int .i64 s.size, .nilIface]) ∧ NH B b (bs ++ Lib.strCells s) w' ∧ Below B w w' ∧ Ji b w w' := by
 obtain ⟨i0, hi, hz0, ko, kZ⟩ := info_parts zX;go_enter Tryz.func46, Tryz.ntmps46;go_wp2_with fail;refine (ux B b bs w h).mono ?_;rintro e w1 ⟨rfl, h1, bt, fW⟩;obtain ⟨hB, v, hbk, hown, hne⟩ := h1;have c0 : w1.cell? ⟨b, 0, none⟩ = some (.pointer (some ⟨b, 0, none⟩)) := (by rw [Lib.cell_of_heap hbk]; rfl);have c1 : w1.cell? ⟨b, 1, none⟩ = some v := (by rw [Lib.cell_of_heap hbk]; rfl);go_wp2_with (at_builtin; refine Lib.wpList_append_own_stringF _ rfl _ _ 76 9 rfl B 5 i0 Tryz.underlying76 Tryz.underlying9 hi hz0 ko kZ _ _ _ rfl hown s rfl ?c3 ?c4 ?c5 ?_);(case c3 => unfold maxLen; omega);(case c4 => omega);(case c5 => have := bt.size; omega);intro v' w2 BX hgrow _;have hlt : b < w1.heap.size := by
  rcases Nat.lt_or_ge b w1.heap.size with h' | h';exact h';simp [Array.getElem?_eq_none h'] at hbk
 have bn : w2.heap[b]? = some (.cells #[.pointer (some ⟨b, 0, none⟩), v] 78 (0, 0)) := by
  rw [hgrow.block b hlt (fun e => hne e.symm)];exact hbk
 have d0 : w2.cell? ⟨b, 0, none⟩ = some (.pointer (some ⟨b, 0, none⟩)) := (by rw [Lib.cell_of_heap bn]; rfl);have d1 : w2.cell? ⟨b, 1, none⟩ = some v := (by rw [Lib.cell_of_heap bn]; rfl);have f1 : w2.frozen? ⟨b, 1, none⟩ = false := Lib.frozen_of_heap bn 1;obtain ⟨ao, n', cap, rfl⟩ : ∃ ao n' cap, v' = .slice ao n' cap := by
  rcases BX.2 with ⟨hv, _⟩ | ⟨g, cap, cur, fz, hv, _⟩;exact ⟨_, _, _, hv⟩;exact ⟨_, _, _, hv⟩
 go_wp2;go_ret2;refine ⟨rfl, ?_, ?_, (fW.grown hgrow (Lib.ownsRowF_kind hown)).setCell ⟨b, 1, none⟩ rfl _⟩;exact Lib.BuilderAtF.put (T := 78) (e := 5) hB bn (bs' := bs ++ Lib.strCells s) (by simpa [Lib.strCells_length] using BX) (by decide);exact (bt.grown hgrow (by have := bt.size; omega) (fun k hk => (hown.lt k hk).1)).setCell (p := ⟨b, 1, none⟩) hB _
theorem uK (B b : Nat) (bs : List Value) (c : Int) (w : World) (h : KN B b bs w) (hlen : bs.length + 1 ≤ 140737488355328) (hBw : B ≤ w.heap.size) :
    Calls Tryz.prog 45 #[.pointer (some ⟨b, 0, none⟩), .int .u8 c] w fun e w' => e = .returned .nilIface ∧ NH B b (bs ++ [.int .u8 c]) w' ∧ Below B w w' := by
 obtain ⟨i0, hi, hz0, ko, kZ⟩ := info_parts zX;go_enter Tryz.func45, Tryz.ntmps45;go_wp2_with fail;refine (ux B b bs w h).mono ?_;rintro e w1 ⟨rfl, h1, bt, fW⟩;obtain ⟨hB, v, hbk, hown, hne⟩ := h1;have c0 : w1.cell? ⟨b, 0, none⟩ = some (.pointer (some ⟨b, 0, none⟩)) := (by rw [Lib.cell_of_heap hbk]; rfl);have c1 : w1.cell? ⟨b, 1, none⟩ = some v := (by rw [Lib.cell_of_heap hbk]; rfl);go_wp2_with (at_builtin; refine wpList_append_ownF _ rfl _ _ 76 rfl B 5 i0 (.int .u8 0) 1 1 Tryz.underlying76 hi hz0 ko kZ rfl (by decide) _ _ _ rfl (hown.alloc _) ⟨w1.heap.size, 0, none⟩ 1 1 [.int .u8 c] rfl rfl (cell_one_new _ _ _) (by intro u hu; simp at hu; subst hu; rfl) ?d3 ?d4 ?d5 ?_);(case d3 => unfold maxLen; omega);(case d4 => omega);(case d5 => have := bt.size; simp; omega);intro v' w2 BX hgrow _;have hlt : b < w1.heap.size := by
  rcases Nat.lt_or_ge b w1.heap.size with h' | h';exact h';simp [Array.getElem?_eq_none h'] at hbk
 have bn : w2.heap[b]? = some (.cells #[.pointer (some ⟨b, 0, none⟩), v] 78 (0, 0)) := by
  rw [hgrow.block b (by simp; omega) (fun e => hne e.symm), Lib.alloc_old w1 _ b hlt];exact hbk
 have d0 : w2.cell? ⟨b, 0, none⟩ = some (.pointer (some ⟨b, 0, none⟩)) := (by rw [Lib.cell_of_heap bn]; rfl);have d1 : w2.cell? ⟨b, 1, none⟩ = some v := (by rw [Lib.cell_of_heap bn]; rfl);have f1 : w2.frozen? ⟨b, 1, none⟩ = false := Lib.frozen_of_heap bn 1;obtain ⟨ao, n', cap, rfl⟩ : ∃ ao n' cap, v' = .slice ao n' cap := by
  rcases BX.2 with ⟨hv, _⟩ | ⟨g, cap, cur, fz, hv, _⟩;exact ⟨_, _, _, hv⟩;exact ⟨_, _, _, hv⟩
 go_wp2;go_ret;refine ⟨rfl, ?_, ?_⟩;exact Lib.BuilderAtF.put (T := 78) (e := 5) hB bn (bs' := bs ++ [.int .u8 c]) (by simpa using BX) (by decide);exact ((bt.alloc (by have := bt.size; omega) _).grown hgrow (by have := bt.size; simp; omega) (fun k hk => (hown.lt k hk).1)).setCell (p := ⟨b, 1, none⟩) hB _
theorem eZ (l : List (List UInt8)) (m : Nat) (h : ∀ x ∈ l, x.length ≤ m) : (Lib.join l [32]).length ≤ l.length * (m + 1) := by
 have tail : ∀ r : List (List UInt8), (∀ x ∈ r, x.length ≤ m) → (Lib.joinTail [32] r).length ≤ r.length * (m + 1) := by
  intro r;induction r with
  | nil => intro _; simp [Lib.joinTail]
  | cons x r ih =>
   intro hr;have h1 := ih (fun y hy => hr y (by simp [hy]));have h2 := hr x (by simp);simp only [Lib.joinTail, List.map_cons, List.flatten_cons, List.length_append, List.length_cons, List.length_nil] at h1 ⊢;rw [Nat.succ_mul];omega
 cases l with
 | nil => simp [Lib.join_nil]
 | cons x r =>
  rw [Lib.join_cons];have h1 := tail r (fun y hy => h y (by simp [hy]));have h2 := h x (by simp);rw [List.length_append, List.length_cons, Nat.succ_mul];omega
theorem ej (A : Option Addr) (n c base : Nat) (l : List (List UInt8)) (w : World) (h : eY w base (.slice A n c) l) (hn : l.length = n) (hm : n ≤ 1000) (hj : (Lib.join l [32]).length ≤ 140737488355328) :
    Calls Tryz.prog 68 #[.slice A n c, .string ⟨#[32]⟩] w fun e w' => e = .returned (.string ⟨(Lib.join l [32]).toArray⟩) ∧ Below w.heap.size w w' := by
 subst hn;rcases Nat.eq_zero_or_pos l.length with h0 | h0
 ·have hl := List.eq_nil_of_length_eq_zero h0;subst hl;refine (Tryz.strings_Join_none A c ⟨#[32]⟩ w).mono ?_;rintro e w' ⟨rfl, rfl⟩;exact ⟨rfl, Below.refl _ _⟩
 obtain ⟨g, c', hv, hc, _, hlt⟩ := vQ h h0;injection hv with hA _ FL;subst hA FL;have hmap : (l.map fun x => (⟨x.toArray⟩ : ByteArray)).map (·.data.toList) = l := by
  rw [List.map_map];exact List.map_id'' (fun x => by simp) l
 have tC : (⟨#[32]⟩ : ByteArray).data.toList = [32] := rfl;have := Tryz.strings_Join g 0 c (l.map fun x => ⟨x.toArray⟩) ⟨#[32]⟩ w (fun j x hx => by
  have h2 := World.ownsRow.cells h (g := g) rfl j (.string x) (by
   simp only [jD, List.getElem?_map, Option.map_eq_some_iff] at hx ⊢;obtain ⟨y, hy, rfl⟩ := hx;exact ⟨y, hy, rfl⟩)
  rwa [jW] at h2) hlt (by simp; omega) (by simpa using hc) (by rw [hmap, tC]; exact hj)
 rw [hmap, tC, List.length_map] at this;exact this
end Go.Proofs.YthnhbcohfoodlaaGreatDoor
