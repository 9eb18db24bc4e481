/- SynRead -/
import Derived.Test.YthnhbcohfoodlaaGreatDoorZk40
import Derived.Test.YthnhbcohfoodlaaGreatDoorZk35
import Derived.Test.YthnhbcohfoodlaaGreatDoorZk12
import Derived.Test.YthnhbcohfoodlaaGreatDoorZk10
namespace Go.Proofs.YthnhbcohfoodlaaGreatDoor
open Go.RowKit
theorem stored_again {w : World} {R F m : Nat} {v : Value} {x p : Int} {tR tF : TypeId} (hR : Blk w R tR #[v]) (hF : Blk w F tF #[.int .i64 x, .int .i64 p]) (hne : R ≠ F) :
    Blk ((((w.drewN m).setCell ⟨R, 0, none⟩ v).setCell ⟨F, 0, none⟩ (.int .i64 x)).setCell ⟨F, 1, none⟩ (.int .i64 p)) R tR #[v] ∧ Blk ((((w.drewN m).setCell ⟨R, 0, none⟩ v).setCell ⟨F, 0, none⟩ (.int .i64 x)).setCell ⟨F, 1, none⟩ (.int .i64 p)) F tF #[.int .i64 x, .int .i64 p] ∧
      ∀ B, B ≤ R → B ≤ F → B ≤ w.heap.size → Below B w ((((w.drewN m).setCell ⟨R, 0, none⟩ v).setCell ⟨F, 0, none⟩ (.int .i64 x)).setCell ⟨F, 1, none⟩ (.int .i64 p)) ∧
        Keeps w (fun b => b ≠ R ∧ b ≠ F) ((((w.drewN m).setCell ⟨R, 0, none⟩ v).setCell ⟨F, 0, none⟩ (.int .i64 x)).setCell ⟨F, 1, none⟩ (.int .i64 p)) (fun b => b ≠ R ∧ b ≠ F) := by
  have h1 : Blk ((w.drewN m).setCell ⟨R, 0, none⟩ v) R tR #[v] := (hR.drewN m).put 0 v
  have b1 := But.set (w.drewN m) R 0 v
  have g1 : Blk ((w.drewN m).setCell ⟨R, 0, none⟩ v) F tF #[.int .i64 x, .int .i64 p] := (b1.2.2.2.2 F (hF.drewN m).lt (Ne.symm hne)).trans (hF.drewN m)
  have b2 := But.set ((w.drewN m).setCell ⟨R, 0, none⟩ v) F 0 (.int .i64 x)
  have g2 : Blk (((w.drewN m).setCell ⟨R, 0, none⟩ v).setCell ⟨F, 0, none⟩ (.int .i64 x)) F tF #[.int .i64 x, .int .i64 p] := g1.put 0 _
  have h2 : Blk (((w.drewN m).setCell ⟨R, 0, none⟩ v).setCell ⟨F, 0, none⟩ (.int .i64 x)) R tR #[v] := (b2.2.2.2.2 R h1.lt hne).trans h1
  have b3 := But.set (((w.drewN m).setCell ⟨R, 0, none⟩ v).setCell ⟨F, 0, none⟩ (.int .i64 x)) F 1 (.int .i64 p)
  refine ⟨(b3.2.2.2.2 R h2.lt hne).trans h2, g2.put 1 _, fun B hR hF hw => ⟨?_, ?_⟩⟩
  · exact ((below_drewN (Below.refl B w) m).trans (b1.to (show B ≤ (w.drewN m).heap.size from hw) hR)).trans ((b2.to (Nat.le_trans hw b1.1) hF).trans (b3.to (Nat.le_trans (Nat.le_trans hw b1.1) b2.1) hF))
  · exact (((Keeps.below (below_drewN (Below.refl _ w) m) (fun b h _ => h)).trans (b1.keeps (X' := fun b => b ≠ R ∧ b ≠ F) (fun b h => h.1) (fun b h _ => h))).trans (b2.keeps (X' := fun b => b ≠ R ∧ b ≠ F) (fun b h => h.2) (fun b h _ => h))).trans (b3.keeps (fun b h => h.2) (fun b h _ => h))
def ErrNum {α : Type} (r : Rdg α) : Prop := ∀ e p, r = .error (e, p) → e ≠ 0
theorem needP_num {L : List Int} {i : Nat} {r : Int} {e : Int} {p : Nat} (h : needP L i r = .error (e, p)) : e ≠ 0 := by
  unfold needP at h
  split at h
  · cases h
  · injection h with h; injection h with h1 h2; omega
theorem hexP_num (L : List Int) (i : Nat) : ErrNum (hexP L i) := by
  intro e p h
  unfold hexP at h
  cases h1 : needP L (i + 1) 123 with
  | error x => obtain ⟨x1, x2⟩ := x; rw [h1] at h; simp only at h; injection h with h; injection h with h3 h4; subst h3; exact needP_num h1
  | ok a =>
    rw [h1] at h
    simp only at h
    split at h
    · injection h with h; injection h with h1 h2; omega
    · cases h2 : needP L (runFrom hexB L a) 125 with
      | error x => obtain ⟨x1, x2⟩ := x; rw [h2] at h; simp only at h; injection h with h; injection h with h3 h4; subst h3; exact needP_num h2
      | ok k =>
        rw [h2] at h
        simp only at h
        split at h
        · injection h with h; injection h with h1 h2; omega
        · cases h
theorem charP_num (L : List Int) (i : Nat) : ErrNum (charP L i) := by
  intro e p h
  unfold charP at h
  repeat' (split at h)
  any_goals (cases h; done)
  any_goals (injection h with h; injection h with h1 h2; omega)
  exact hexP_num _ _ _ _ h
theorem spanP_num (L : List Int) (i : Nat) : ErrNum (spanP L i) := by
  intro e p h
  unfold spanP at h
  cases h1 : charP L i with
  | error x => obtain ⟨x1, x2⟩ := x; rw [h1] at h; simp only at h; injection h with h; injection h with h3 h4; subst h3; exact charP_num _ _ _ _ h1
  | ok q =>
    obtain ⟨a, j⟩ := q
    rw [h1] at h
    simp only at h
    split at h
    · cases h2 : charP L (j + 1) with
      | error x => obtain ⟨x1, x2⟩ := x; rw [h2] at h; simp only at h; injection h with h; injection h with h3 h4; subst h3; exact charP_num _ _ _ _ h2
      | ok q =>
        obtain ⟨b, k⟩ := q
        rw [h2] at h
        simp only at h
        split at h
        · injection h with h; injection h with h1 h2; omega
        · cases h
    · cases h
theorem classP_num (L : List Int) (i : Nat) : ErrNum (classP L i) := by
  intro e p h
  unfold classP at h
  split at h
  · injection h with h; injection h with h1 h2; omega
  · split at h
    · rename_i h1; cases h; exact needP_num h1
    · split at h
      · rename_i h1; cases h; exact needP_num h1
      · cases h
theorem partP_num {inner : Nat → Rdg Spans} (hi : ∀ i, ErrNum (inner i)) (L : List Int) (i : Nat) : ErrNum (partP' inner L i) := by
  intro e p h
  unfold partP' at h
  split at h
  · exact classP_num _ _ _ _ h
  · split at h
    · exact hi _ _ _ h
    · split at h
      · exact hi _ _ _ h
      · split at h
        · rename_i h1; cases h; exact spanP_num _ _ _ _ h1
        · cases h
theorem partsP_num {inner : Nat → Rdg Spans} (hi : ∀ i, ErrNum (inner i)) (L : List Int) : ∀ f i s, ErrNum (partsP inner L f i s) := by
  intro f
  induction f with
  | zero => intro i s e p h; unfold partsP at h; injection h with h; injection h with h1 h2; omega
  | succ f ih =>
    intro i s e p h
    rw [partsP] at h
    split at h
    · cases h
    · split at h
      · rename_i h1; cases h; exact partP_num hi _ _ _ _ h1
      · split at h
        · rename_i h1; injection h with h; injection h with h2 h3; subst h2; exact h1
        · exact ih _ _ _ _ h
theorem setP_num (L : List Int) : ∀ n i, ErrNum (setP' L n i) := by
  intro n
  induction n with
  | zero => intro i e p h; unfold setP' at h; injection h with h; injection h with h1 h2; split at h1 <;> omega
  | succ n ih =>
    intro i e p h
    rw [setP'] at h
    split at h
    · rename_i h1; cases h; exact needP_num h1
    · split at h
      · rename_i h1; cases h; exact partsP_num ih _ _ _ _ _ _ h1
      · split at h
        · split at h
          · rename_i h1; injection h with h; injection h with h2 h3; subst h2; exact h1
          · cases h
        · cases h
end Go.Proofs.YthnhbcohfoodlaaGreatDoor
