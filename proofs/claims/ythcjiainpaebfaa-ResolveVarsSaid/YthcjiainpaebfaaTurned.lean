/- Each rule the other way round: the plain law of ResolveTurned. -/
import Derived.Test.YthcjiainpaebfaaRefSt
namespace Go.Proofs.Ythcjiainpaebfaa
open Go.RowKit

def turnD (p : PartD) : PartD := if p.kind = 2 then ⟨p.kind, p.name, p.set, if p.dir = 1 ∨ p.dir = 2 then 3 - p.dir else p.dir, p.right, p.left⟩ else p
theorem turn_kind (p : PartD) : (turnD p).kind = p.kind := by unfold turnD; by_cases h : p.kind = 2 <;> simp [h]
theorem turn_name (p : PartD) : (turnD p).name = p.name := by unfold turnD; by_cases h : p.kind = 2 <;> simp [h]
theorem turn_set (p : PartD) : (turnD p).set = p.set := by unfold turnD; by_cases h : p.kind = 2 <;> simp [h]
theorem turn_rule {p : PartD} (h : p.kind = 2) : turnD p = ⟨p.kind, p.name, p.set, if p.dir = 1 ∨ p.dir = 2 then 3 - p.dir else p.dir, p.right, p.left⟩ := by unfold turnD; rw [if_pos h]
theorem turn_other {p : PartD} (h : p.kind ≠ 2) : turnD p = p := by unfold turnD; rw [if_neg h]
theorem rule_zero {d : Int} {l r : SideD} : ruleP d l r = 0 ↔ (1 ≤ d ∧ d ≤ 3) ∧ sideP l (d != 2) = 0 ∧ sideP r (d != 1) = 0 ∧ fitB d l r = true := by
  unfold ruleP
  by_cases h1 : d < 1 ∨ 3 < d
  · rw [if_pos h1]
    constructor
    · intro h; cases h
    · intro h; omega
  rw [if_neg h1]
  by_cases h2 : sideP l (d != 2) = 0
  · rw [if_pos h2]
    by_cases h3 : sideP r (d != 1) = 0
    · rw [if_pos h3]
      by_cases h4 : fitB d l r = true
      · rw [if_pos h4]
        exact ⟨fun _ => ⟨by omega, h2, h3, h4⟩, fun _ => rfl⟩
      · rw [if_neg h4]
        constructor
        · intro h; cases h
        · intro h; exact absurd h.2.2.2 h4
    · rw [if_neg h3]
      exact ⟨fun h => absurd h h3, fun h => h.2.2.1⟩
  · rw [if_neg h2]
    exact ⟨fun h => absurd h h2, fun h => h.2.1⟩
theorem part_rule {p : PartD} (h : p.kind = 2) : partP p = ruleP p.dir p.left p.right := by
  unfold partP
  rw [h, if_neg (by decide), if_neg (by decide), if_neg (by decide), if_pos rfl]
theorem part_turn (p : PartD) : partP (turnD p) = 0 ↔ partP p = 0 := by
  by_cases hk : p.kind = 2
  · rw [turn_rule hk]
    rw [part_rule hk, part_rule (by exact hk), rule_zero, rule_zero]
    dsimp only
    by_cases hd : 1 ≤ p.dir ∧ p.dir ≤ 3
    · rcases (show p.dir = 1 ∨ p.dir = 2 ∨ p.dir = 3 by omega) with h | h | h
      · rw [h]
        simp [fitB, and_comm, and_left_comm, and_assoc]
      · rw [h]
        simp [fitB, and_comm, and_left_comm, and_assoc]
      · rw [h]
        simp [fitB, and_comm, and_left_comm, and_assoc]
    · rw [if_neg (by omega)]
      exact ⟨fun h => absurd h.1 hd, fun h => absurd h.1 hd⟩
  · rw [turn_other hk]
theorem fileGo_all {l : List PartD} (h : ∀ p ∈ l, partP p = 0) : ∀ i, fileGo i l = (0, 0) := by
  induction l with
  | nil => intro i; rfl
  | cons p l ih =>
    intro i
    rw [fileGo, if_pos (h p (by simp)), ih (fun q hq => h q (by simp [hq]))]
theorem file_zero {l : List PartD} : (fileP l).1 = 0 ↔ l.length ≤ 200 ∧ ∀ p ∈ l, partP p = 0 := by
  constructor
  · intro h
    obtain ⟨h1, _, h3⟩ := file_ok h
    exact ⟨h1, h3⟩
  · intro ⟨h1, h2⟩
    unfold fileP
    rw [if_neg (by omega), fileGo_all h2]
theorem file_turn (l : List PartD) : (fileP (l.map turnD)).1 = 0 ↔ (fileP l).1 = 0 := by
  rw [file_zero, file_zero, List.length_map]
  constructor
  · intro ⟨h1, h2⟩
    exact ⟨h1, fun p hp => (part_turn p).1 (h2 _ (List.mem_map_of_mem hp))⟩
  · intro ⟨h1, h2⟩
    refine ⟨h1, fun p hp => ?_⟩
    obtain ⟨q, hq, rfl⟩ := List.mem_map.1 hp
    exact (part_turn q).2 (h2 q hq)
theorem look_turn (l : List PartD) (s : ByteArray) : lookP (l.map turnD) s = lookP l s := by
  induction l with
  | nil => rfl
  | cons p l ih => rw [List.map_cons, lookP, lookP, turn_kind, turn_name, turn_set, ih]
theorem sets_congr {l1 l2 : List PartD} (h : ∀ s, lookP l1 s = lookP l2 s) (L : List ItemD) : setsP l1 L = setsP l2 L := by
  induction L with
  | nil => rfl
  | cons a L ih =>
    have : setP l1 a = setP l2 a := by unfold setP; rw [h]
    rw [setsP, setsP, this, ih]
theorem rule_congr {l1 l2 : List PartD} (h : ∀ s, lookP l1 s = lookP l2 s) (f t : SideD) : ruleP' l1 f t = ruleP' l2 f t := by
  unfold ruleP'
  rw [sets_congr h, sets_congr h, sets_congr h]
theorem step_turn {l : List PartD} {k : Nat} {p : PartD} {s : StD} (h0 : partP p = 0) (h4 : p.kind ≠ 4) : stepP false (l.map turnD) k (turnD p) s = stepP true l k p s := by
  have hL : ∀ x, lookP ((l.map turnD).take k) x = lookP (l.take k) x := by
    intro x
    rw [← List.map_take, look_turn]
  unfold stepP
  rw [turn_kind, turn_name, turn_set, hL]
  by_cases k1 : p.kind = 1
  · rw [if_pos k1, if_pos k1]
  rw [if_neg k1, if_neg k1]
  by_cases k3 : p.kind = 3
  · rw [if_pos k3, if_pos k3]
  rw [if_neg k3, if_neg k3, if_neg h4, if_neg h4]
  have k2 : p.kind = 2 := by
    rcases part_kinds h0 with ⟨h, _⟩ | ⟨h, _⟩ | ⟨h, _⟩ | ⟨h, _⟩
    · exact absurd h k1
    · exact absurd h k3
    · exact absurd h h4
    · exact h
  have hd : p.dir = 1 ∨ p.dir = 2 ∨ p.dir = 3 := by
    rcases part_kinds h0 with ⟨h, _⟩ | ⟨h, _⟩ | ⟨h, _⟩ | ⟨_, h⟩
    · exact absurd h k1
    · exact absurd h k3
    · exact absurd h h4
    · exact h.1
  rw [turn_rule k2]
  dsimp only
  rw [rule_congr hL, rule_congr hL]
  cases ruleP' (l.take k) p.left p.right with
  | none => cases ruleP' (l.take k) p.right p.left <;> rfl
  | some x =>
    cases ruleP' (l.take k) p.right p.left with
    | none => rfl
    | some y =>
      rcases hd with h | h | h <;> rw [h] <;> simp
theorem upto_turn {l : List PartD} (h0 : ∀ p ∈ l, partP p = 0) (h4 : ∀ p ∈ l, p.kind ≠ 4) : ∀ k, uptoP false (l.map turnD) k = uptoP true l k := by
  intro k
  induction k with
  | zero => rfl
  | succ k ih =>
    rw [uptoP, uptoP, ih]
    cases uptoP true l k with
    | error e => rfl
    | ok s =>
      dsimp only
      rw [List.getElem?_map]
      cases hp : l[k]? with
      | none => rfl
      | some p =>
        exact step_turn (h0 p (List.mem_of_getElem? hp)) (h4 p (List.mem_of_getElem? hp))
theorem upto_ps {back : Bool} {l : List PartD} (h4 : ∀ p ∈ l, p.kind ≠ 4) : ∀ k s, uptoP back l k = .ok s → s.ps = [] := by
  intro k
  induction k with
  | zero => intro s e; rw [uptoP] at e; cases e; rfl
  | succ k ih =>
    intro s e
    cases h0 : uptoP back l k with
    | error e' => rw [uptoP, h0] at e; cases e
    | ok t =>
      cases hp : l[k]? with
      | none =>
        rw [uptoP, h0] at e
        simp only [hp] at e
        cases e
        exact ih _ h0
      | some p =>
        rw [uptoP_step h0 hp] at e
        have ht := ih _ h0
        unfold stepP at e
        by_cases k1 : p.kind = 1
        · rw [if_pos k1] at e
          cases hl : lookP (l.take k) p.name with
          | some x => rw [hl] at e; cases e
          | none => rw [hl] at e; cases e; exact ht
        rw [if_neg k1] at e
        by_cases k3 : p.kind = 3
        · rw [if_pos k3] at e
          by_cases hs : t.some? = true
          · rw [if_pos hs] at e; cases e
          · rw [if_neg hs] at e; cases e; exact ht
        rw [if_neg k3, if_neg (h4 p (List.mem_of_getElem? hp))] at e
        cases hx : ruleP' (l.take k) p.left p.right with
        | none => rw [hx] at e; cases e
        | some x =>
          cases hy : ruleP' (l.take k) p.right p.left with
          | none => rw [hx, hy] at e; cases e
          | some y =>
            rw [hx, hy] at e
            injection e with e
            subst e
            by_cases d : (back = true ∧ p.dir = 1) ∨ (back = false ∧ p.dir = 2)
            · rw [if_pos d]; exact ht
            · rw [if_neg d]; exact ht
theorem ready_turn {l : List PartD} (h4 : ∀ p ∈ l, p.kind ≠ 4) : ((readyP true l).2.1 = 0 ↔ (readyP false (l.map turnD)).2.1 = 0) ∧ ((readyP true l).2.1 = 0 → (readyP true l).1 = (readyP false (l.map turnD)).1) := by
  by_cases hw : (fileP l).1 = 0
  · have hw2 := (file_turn l).2 hw
    have hu := upto_turn (file_zero.1 hw).2 h4 l.length
    cases h : uptoP true l l.length with
    | error e =>
      rw [h] at hu
      rw [readyP_error hw (Nat.le_refl _) h, readyP_error hw2 (k := l.length) (by rw [List.length_map]; exact Nat.le_refl _) hu]
      exact ⟨Iff.rfl, fun _ => rfl⟩
    | ok s =>
      rw [h] at hu
      rw [readyP_ok hw h, readyP_ok hw2 (by rw [List.length_map]; exact hu), upto_ps h4 _ _ h]
      refine ⟨Iff.rfl, fun _ => ?_⟩
      cases s.a <;> simp [pend]
  · have hw2 : (fileP (l.map turnD)).1 ≠ 0 := fun h => hw ((file_turn l).1 h)
    rw [readyP_wrong hw, readyP_wrong hw2]
    exact ⟨⟨fun h => absurd h hw, fun h => absurd h hw2⟩, fun _ => rfl⟩

end Go.Proofs.Ythcjiainpaebfaa
