/- What the arms of resolve.ready's round leave: stores into the map, into the results, a failing end. -/
import Derived.Test.YthcjiainpaebfaaReady
namespace Go.Proofs.Ythcjiainpaebfaa
open Go.RowKit Go.Maps

theorem keeps_map {w w1 : World} {X : Nat → Prop} {mb : Nat} (hg : w.grownBy w1 (some mb)) (hX : ∀ b, X b → b ≠ mb) : Keeps w X w1 X := fun b hx hl =>
  ⟨hg.block b hl (fun e => hX b hx (by injection e)), hx, Nat.lt_of_lt_of_le hl hg.size⟩
theorem blk_map {w w1 : World} {mb g : Nat} {t : TypeId} {cs : Array Value} (hg : w.grownBy w1 (some mb)) (h : Blk w g t cs) (hne : g ≠ mb) : Blk w1 g t cs :=
  (hg.block g h.lt (fun e => hne (by injection e))).trans h
theorem own_map {w w1 : World} {mb lo sz n : Nat} {e : TypeId} {v : Value} {xs : List Value} (hg : w.grownBy w1 (some mb)) (hm : mb < lo) (h : w.ownsRow lo e sz v n xs) : w1.ownsRow lo e sz v n xs := by
  refine World.ownsRow.kept h hg ?_
  cases hv : v.ownBlock with
  | none => exact .inl rfl
  | some b =>
    right
    intro e
    injection e with e
    have := (own_lt h hv).1
    omega
theorem RySt.map {B lo mb : Nat} {A A2 : List RuleD} {P P2 : List PassD} {va vb vp vq : Value} {wx w1 : World} (h : RySt B lo A A2 P P2 va vb vp vq wx) (hg : wx.grownBy w1 (some mb)) (h1 : B ≤ mb) (h2 : mb < lo) : RySt B lo A A2 P P2 va vb vp vq w1 :=
  RySt.kept (keeps_map hg (fun b hb => by rcases hb with h | h <;> omega)) (fun _ _ _ _ _ h => own_map hg h2 h) h
theorem Vars4.map {ga gb gp gq mb : Nat} {ca cb cp cq : Value} {wx w1 : World} (h : Vars4 ga gb gp gq ca cb cp cq wx) (hg : wx.grownBy w1 (some mb)) (h1 : ga ≠ mb) (h2 : gb ≠ mb) (h3 : gp ≠ mb) (h4 : gq ≠ mb) : Vars4 ga gb gp gq ca cb cp cq w1 :=
  ⟨blk_map hg h.1 h1, blk_map hg h.2.1 h2, blk_map hg h.2.2.1 h3, blk_map hg h.2.2.2 h4⟩
theorem Vars4.below {ga gb gp gq : Nat} {ca cb cp cq : Value} {wx w1 : World} (h : Vars4 ga gb gp gq ca cb cp cq wx) (hb : Below wx.heap.size wx w1) : Vars4 ga gb gp gq ca cb cp cq w1 :=
  ⟨Blk.below h.1 hb h.1.lt, Blk.below h.2.1 hb h.2.1.lt, Blk.below h.2.2.1 hb h.2.2.1.lt, Blk.below h.2.2.2 hb h.2.2.2.lt⟩
theorem Vars4.set {ga gb gp gq g i : Nat} {u : Value} {ca cb cp cq : Value} {wx : World} (h : Vars4 ga gb gp gq ca cb cp cq wx) (h1 : ga ≠ g) (h2 : gb ≠ g) (h3 : gp ≠ g) (h4 : gq ≠ g) : Vars4 ga gb gp gq ca cb cp cq (wx.setCell ⟨g, i, none⟩ u) :=
  ⟨blk_set_ne h.1 h1, blk_set_ne h.2.1 h2, blk_set_ne h.2.2.1 h3, blk_set_ne h.2.2.2 h4⟩
theorem Res3.map {w wx w1 : World} {cf cb cr : Array Value} {mb : Nat} (h : Res3 w cf cb cr wx) (hg : wx.grownBy w1 (some mb)) (hm : w.heap.size + 3 ≤ mb) : Res3 w cf cb cr w1 :=
  ⟨blk_map hg h.1 (by omega), blk_map hg h.2.1 (by omega), blk_map hg h.2.2.1 (by omega), h.2.2.2.grown hg h.2.2.2.size (fun k e => by injection e with e; omega)⟩
theorem Res3.setF {w wx : World} {cf cb cr : Array Value} (h : Res3 w cf cb cr wx) (i : Nat) (u : Value) : Res3 w (cf.setIfInBounds i u) cb cr (wx.setCell ⟨w.heap.size, i, none⟩ u) :=
  ⟨h.1.put i u, blk_set_ne h.2.1 (by omega), blk_set_ne h.2.2.1 (by omega), h.2.2.2.setCell (by simp) _⟩
theorem RySt.fresh {B lo : Nat} {A A2 : List RuleD} {P P2 : List PassD} {va vb vp vq : Value} {wx : World} (h : RySt B lo A A2 P P2 va vb vp vq wx) (hlo : lo ≤ wx.heap.size) : ∀ b, wx.heap.size ≤ b → Rows4 B lo va vb vp vq b := by
  obtain ⟨⟨_, _, _, _, o1⟩, ⟨_, _, _, _, o2⟩, ⟨_, _, _, _, o3⟩, ⟨_, _, _, _, o4⟩, _⟩ := h
  intro b hb
  have ne : ∀ {e : TypeId} {sz n : Nat} {v : Value} {xs : List Value}, wx.ownsRow lo e sz v n xs → v.ownBlock ≠ some b := fun ho e => by
    have := (own_lt ho e).2
    omega
  exact .inr ⟨by omega, ne o1, ne o2, ne o3, ne o4⟩
theorem EnvM.set {w : World} {B mb n g i : Nat} {l : List PartD} {u : Value} (h : EnvM w (· < B) mb n l) (h1 : B ≤ g) (h2 : g ≠ mb) : EnvM (w.setCell ⟨g, i, none⟩ u) (· < B) mb n l :=
  EnvM.keep (Keeps.setCell u (fun b hb => by dsimp only; omega) (fun _ h _ => h)) (Below.heap_setCell _ _ _ _ (Ne.symm h2)) h
theorem EnvM.below {w w' : World} {B mb n : Nat} {l : List PartD} (h : EnvM w (· < B) mb n l) (hb : Below w.heap.size w w') : EnvM w' (· < B) mb n l :=
  EnvM.keep (Keeps.below hb (fun _ h _ => h)) (hb.block _ h.lt) h
theorem upto_same {l : List PartD} {k : Nat} {s t : StD} (h1 : uptoP false l k = .ok s) (h2 : uptoP true l k = .ok t) : s.some? = t.some? ∧ s.only = t.only := by
  rcases upto_both l k with ⟨s', t', g1, g2, g3, g4⟩ | ⟨e, g1, _⟩
  · rw [h1] at g1
    rw [h2] at g2
    injection g1 with g1
    injection g2 with g2
    subst g1 g2
    exact ⟨g3, g4⟩
  · rw [h1] at g1
    cases g1
theorem take_snoc {α : Type} {l : List α} {k : Nat} {p : α} (h : l[k]? = some p) : l.take (k + 1) = l.take k ++ [p] := by
  rw [List.take_add_one, h]; rfl
theorem fail_post {B lo : Nat} {l : List PartD} {er : Int} {k : Nat} (hw : (fileP l).1 = 0) (hk : k + 1 ≤ l.length) (h1 : uptoP false l (k + 1) = .error (er, (k : Int))) (h2 : uptoP true l (k + 1) = .error (er, (k : Int))) (w' : World) :
    RdyPost B lo w' l (.returned (.tuple #[.agg #[.bool false, .slice none 0 0, .slice none 0 0], .agg #[.bool false, .slice none 0 0, .slice none 0 0], .agg #[.int .i64 er, .int .i64 k]])) := by
  have e1 := readyP_error hw hk h1
  have e2 := readyP_error hw hk h2
  exact ⟨[.bool false, .slice none 0 0, .slice none 0 0], [.bool false, .slice none 0 0, .slice none 0 0], rfl, rfl, by rw [e1], by rw [e1]; exact no_script _ _, by rw [e2]; exact no_script _ _⟩

section
variable {back : Bool} {l : List PartD} {k : Nat} {p : PartD} {s : StD}
theorem step_name_in {x : Spans} (h : p.kind = 1) (hl : lookP (l.take k) p.name = some x) : stepP back l k p s = .error (7, (k : Int)) := by
  unfold stepP; rw [if_pos h, hl]
theorem step_name_new (h : p.kind = 1) (hl : lookP (l.take k) p.name = none) : stepP back l k p s = .ok s := by
  unfold stepP; rw [if_pos h, hl]
theorem step_filter_again (h : p.kind = 3) (hs : s.some? = true) : stepP back l k p s = .error (5, (k : Int)) := by
  unfold stepP; rw [h, if_neg (by decide), if_pos rfl, if_pos hs]
theorem step_filter (h : p.kind = 3) (hs : s.some? = false) : stepP back l k p s = .ok ⟨true, p.set, s.ps, s.a⟩ := by
  unfold stepP; rw [h, if_neg (by decide), if_pos rfl, if_neg (by rw [hs]; decide)]
theorem step_pass (h : p.kind = 4) : stepP back l k p s = .ok ⟨s.some?, s.only, s.ps ++ pend s.a ++ [⟨if back = true then inverseP p.name else p.name, []⟩], []⟩ := by
  unfold stepP; rw [h, if_neg (by decide), if_neg (by decide), if_pos rfl]
theorem step_rule_no (h : p.kind = 2) (hr : ((ruleP' (l.take k) p.left p.right).isSome && (ruleP' (l.take k) p.right p.left).isSome) = false) : stepP back l k p s = .error (7, (k : Int)) := by
  unfold stepP
  rw [h, if_neg (by decide), if_neg (by decide), if_neg (by decide)]
  cases h1 : ruleP' (l.take k) p.left p.right with
  | none => rfl
  | some x =>
    cases h2 : ruleP' (l.take k) p.right p.left with
    | none => rfl
    | some y => rw [h1, h2] at hr; cases hr
theorem step_rule {x y : RuleD} (h : p.kind = 2) (h1 : ruleP' (l.take k) p.left p.right = some x) (h2 : ruleP' (l.take k) p.right p.left = some y) :
    stepP back l k p s = .ok (if (back = true ∧ p.dir = 1) ∨ (back = false ∧ p.dir = 2) then s else ⟨s.some?, s.only, s.ps, s.a ++ [if back = true then y else x]⟩) := by
  unfold stepP
  rw [h, if_neg (by decide), if_neg (by decide), if_neg (by decide), h1, h2]
end

end Go.Proofs.Ythcjiainpaebfaa
