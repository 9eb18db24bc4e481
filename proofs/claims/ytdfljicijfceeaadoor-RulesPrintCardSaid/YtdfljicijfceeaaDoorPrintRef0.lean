/- Where the walks of the two Prints of a file stand, part by part. -/
import Derived.Test.YtdfljicijfceeaaDoorPartText
import Derived.Deep.CutBlock
import Derived.Deep.DeepCutAuto
import Derived.Deep.RegionHeldLaw
namespace Go.Proofs.YtdfljicijfceeaaDoor
open Go.RowKit

/-- Where the walk of a part stands: the fault's cells, the part's own cells. -/
def PrAt (w : World) (g gp : Nat) (cs : Array Value) (wx : World) : Prop :=
  Blk wx g 25 #[.int .i64 0, .int .i64 0] ∧ Blk wx gp 39 cs ∧ Below w.heap.size w wx
section
variable {w wx w2 : World} {g gp : Nat} {cs : Array Value}
theorem PrAt.drew (h : PrAt w g gp cs wx) : PrAt w g gp cs wx.drew := ⟨h.1, h.2.1, h.2.2.drew⟩
theorem PrAt.alloc (h : PrAt w g gp cs wx) (o : Obj) : PrAt w g gp cs (wx.alloc o) := ⟨Blk.alloc h.1 o, Blk.alloc h.2.1 o, h.2.2.alloc h.2.2.size o⟩
theorem PrAt.below (h : PrAt w g gp cs wx) (hb : Below wx.heap.size wx w2) : PrAt w g gp cs w2 := ⟨Blk.below h.1 hb h.1.lt, Blk.below h.2.1 hb h.2.1.lt, h.2.2.trans (hb.mono h.2.2.size)⟩
theorem PrAt.app (h : PrAt w g gp cs wx) {base n : Nat} {v v' : Value} {xs : List Value} {W : List (List UInt8)} (ho : OwnT wx base v W) (hbz : w.heap.size ≤ base) (ha : Appended base 9 1 v wx n xs v' w2) : PrAt w g gp cs w2 :=
  ⟨Blk.appended h.1 ho (by decide) ha, Blk.appended h.2.1 ho (by decide) ha, h.2.2.trans (ha.below h.2.2.size (own_mono ho hbz))⟩
end
/-- A part's words are laid. -/
def PwAt (w : World) (g gp : Nat) (cs : Array Value) (W : List Word) (v : Value) (wx : World) : Prop :=
  ∃ A c, v = .slice A W.length c ∧ Rd wx wx.heap.size 1 A W.length (strVals W) ∧ PrAt w g gp cs wx
theorem pw_new {w wx : World} {g gp n : Nat} {cs : Array Value} {W : List Word} (us : List Value) (h : PrAt w g gp cs wx) (hn : W.length = n) (hv : strVals W = us) : PwAt w g gp cs W (.slice (some ⟨wx.heap.size, 0, none⟩) n n) (wx.alloc (.cells us.toArray 9)) := by
  subst hn hv
  refine ⟨_, _, rfl, Rd.more (Rd.new wx 9 1 W.length (strVals W) (by simp [strVals])) (by simp), PrAt.alloc h _⟩
theorem pw_own {w wx : World} {g gp base : Nat} {cs : Array Value} {W : List Word} {v : Value} (h : PrAt w g gp cs wx) (ho : OwnT wx base v W) : PwAt w g gp cs W v wx := by
  obtain ⟨A, c, rfl, _⟩ := own_form ho
  exact ⟨A, c, rfl, OwnT.rd ho rfl, h⟩
def FpRel (w : World) (g : Nat) (l : List PartD) (n : Nat) (t i : Value) (wr : World) : Prop :=
  ∃ (k : Nat) (T : List UInt8), k ≤ n ∧ i = .int .i64 k ∧ t = .string ⟨T.toArray⟩ ∧ fileT l = T ++ fileT (l.drop k) ∧ T.length ≤ k * 1300000 ∧ Blk wr g 25 #[.int .i64 0, .int .i64 0] ∧ Below w.heap.size w wr
def FwRel (W0 : World) (T : List UInt8) (W : List Word) (t i : Value) (wr : World) : Prop :=
  ∃ k : Nat, k ≤ W.length ∧ i = .int .i64 k ∧ t = .string ⟨(T ++ (W.take k).flatMap fun x => x ++ [32]).toArray⟩ ∧ wr = W0
theorem take_flat {W : List Word} {k : Nat} {x : Word} (h : W[k]? = some x) : (W.take (k + 1)).flatMap (fun x => x ++ [32]) = (W.take k).flatMap (fun x => x ++ [32]) ++ (x ++ [32]) := by
  rw [List.take_add_one, h]
  simp
theorem strVals_at {W : List Word} {k : Nat} {x : Word} (h : W[k]? = some x) : (strVals W)[k]? = some (.string ⟨x.toArray⟩) := by
  simp [strVals, h]

end Go.Proofs.YtdfljicijfceeaaDoor
