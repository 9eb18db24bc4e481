/- Each name by its set: the plain law of ResolveVars. -/
import Derived.Test.YthcjiainpaebfaaTurned
import Derived.Test.YthcjiainpaebfaaForth
import Derived.Deep.CutBlock
import Derived.Deep.RegionHeldLaw
namespace Go.Proofs.Ythcjiainpaebfaa
open Go.RowKit

/-- With what kinds have alone. -/
def bareI (a : ItemD) : ItemD := ⟨a.kind, if a.kind = 1 then a.rune else 0, if a.kind = 2 then a.set else [], if a.kind = 3 then a.name else ⟨#[]⟩⟩
def bareS (s : SideD) : SideD := ⟨s.start, s.fin, s.before.map bareI, s.source.map bareI, s.after.map bareI, s.cursor⟩
def zeroS : SideD := ⟨false, false, [], [], [], 0⟩
def bareD (p : PartD) : PartD := ⟨p.kind, if p.kind = 1 ∨ p.kind = 4 then p.name else ⟨#[]⟩, if p.kind = 1 ∨ p.kind = 3 then p.set else [], if p.kind = 2 then p.dir else 0, if p.kind = 2 then bareS p.left else zeroS, if p.kind = 2 then bareS p.right else zeroS⟩
def putI (had : ByteArray → Spans) (a : ItemD) : ItemD := if a.kind = 3 then ⟨2, 0, had a.name, ⟨#[]⟩⟩ else a
def putS (had : ByteArray → Spans) (s : SideD) : SideD := ⟨s.start, s.fin, s.before.map (putI had), s.source.map (putI had), s.after.map (putI had), s.cursor⟩
def hadP (l : List PartD) (s : ByteArray) : Spans := (lookP l s).getD []
/-- A part with each variable's set in the place of its name. -/
def varD (l : List PartD) (p : PartD) : PartD := if p.kind = 2 then ⟨p.kind, ⟨#[]⟩, [], p.dir, putS (hadP l) (bareS p.left), putS (hadP l) (bareS p.right)⟩ else bareD p
def varsP (l : List PartD) : List PartD := l.mapIdx fun k p => varD (l.take k) p

theorem vars_at {l : List PartD} {k : Nat} {p : PartD} (hp : l[k]? = some p) : (varsP l)[k]? = some (varD (l.take k) p) := by
  unfold varsP
  rw [List.getElem?_mapIdx, hp]
  rfl
theorem vars_len (l : List PartD) : (varsP l).length = l.length := by
  unfold varsP
  rw [List.length_mapIdx]
theorem var_kind (l : List PartD) (p : PartD) : (varD l p).kind = p.kind := by
  unfold varD
  by_cases h : p.kind = 2
  · rw [if_pos h]
  · rw [if_neg h]; rfl
theorem var_name {l : List PartD} {p : PartD} (h : p.kind = 1 ∨ p.kind = 4) : (varD l p).name = p.name := by
  unfold varD
  rw [if_neg (by omega)]
  show (if p.kind = 1 ∨ p.kind = 4 then p.name else _) = p.name
  rw [if_pos h]
theorem var_set {l : List PartD} {p : PartD} (h : p.kind = 1 ∨ p.kind = 3) : (varD l p).set = p.set := by
  unfold varD
  rw [if_neg (by omega)]
  show (if p.kind = 1 ∨ p.kind = 3 then p.set else _) = p.set
  rw [if_pos h]
theorem look_vars (l : List PartD) (s : ByteArray) : ∀ k, lookP ((varsP l).take k) s = lookP (l.take k) s := by
  intro k
  induction k with
  | zero => rfl
  | succ k ih =>
    cases hp : l[k]? with
    | none =>
      have h1 : l.length ≤ k := List.getElem?_eq_none_iff.1 hp
      rw [List.take_of_length_le (by rw [vars_len]; omega), List.take_of_length_le (by omega)]
      rw [List.take_of_length_le (by rw [vars_len]; omega), List.take_of_length_le (by omega)] at ih
      exact ih
    | some p =>
      rw [lookP_take hp, lookP_take (vars_at hp), ih, var_kind]
      by_cases h1 : p.kind = 1
      · rw [var_name (.inl h1), var_set (.inl h1)]
      · cases lookP (l.take k) s with
        | some x => rfl
        | none =>
          dsimp only
          rw [if_neg (fun h => h1 h.1), if_neg (fun h => h1 h.1)]

section
variable {l : List PartD}
theorem setP_put {L : List PartD} {a : ItemD} (ha : itemP a = 0) {x : Spans} (hx : setP l a = some x) : setP L (putI (hadP l) (bareI a)) = some x := by
  rcases item_kinds ha with ⟨h, _⟩ | ⟨h, _⟩ | ⟨h, _⟩
  · unfold putI bareI setP at *
    simp only [h] at *
    simpa using hx
  · unfold putI bareI setP at *
    simp only [h] at *
    simpa using hx
  · unfold putI bareI setP at *
    simp only [h] at *
    simp at hx ⊢
    unfold hadP
    rw [hx]
    rfl
theorem setsP_put {L : List PartD} {M : List ItemD} (ha : ∀ a ∈ M, itemP a = 0) {x : List Spans} (hx : setsP l M = some x) : setsP L ((M.map bareI).map (putI (hadP l))) = some x := by
  induction M generalizing x with
  | nil => exact hx
  | cons a M ih =>
    rw [setsP] at hx
    cases h1 : setP l a with
    | none => rw [h1] at hx; cases hx
    | some s =>
      rw [h1] at hx
      cases h2 : setsP l M with
      | none => rw [h2] at hx; cases hx
      | some m =>
        rw [h2] at hx
        cases hx
        rw [List.map_cons, List.map_cons, setsP, setP_put (ha a (by simp)) h1, ih (fun b hb => ha b (by simp [hb])) h2]
        rfl
theorem look_wrong (h0 : ∀ p ∈ l, partP p = 0) {s : ByteArray} {x : Spans} (h : lookP l s = some x) : wrongP x = 0 := by
  induction l with
  | nil => cases h
  | cons p l ih =>
    rw [lookP] at h
    by_cases h1 : p.kind = 1 ∧ p.name = s
    · rw [if_pos h1] at h
      cases h
      rcases part_kinds (h0 p (by simp)) with ⟨_, _, h⟩ | ⟨h, _⟩ | ⟨h, _⟩ | ⟨h, _⟩
      · exact h
      all_goals (have := h1.1; omega)
    · rw [if_neg h1] at h
      exact ih (fun q hq => h0 q (by simp [hq])) h
theorem set_mem {M : List ItemD} {x : List Spans} (hx : setsP l M = some x) : ∀ a ∈ M, ∃ s, setP l a = some s := by
  induction M generalizing x with
  | nil => simp
  | cons a M ih =>
    rw [setsP] at hx
    cases h1 : setP l a with
    | none => rw [h1] at hx; cases hx
    | some s =>
      rw [h1] at hx
      cases h2 : setsP l M with
      | none => rw [h2] at hx; cases hx
      | some m =>
        intro b hb
        rcases List.mem_cons.1 hb with rfl | hb
        · exact ⟨s, h1⟩
        · exact ih h2 b hb
theorem item_put (h0 : ∀ p ∈ l, partP p = 0) {a : ItemD} (ha : itemP a = 0) {x : Spans} (hx : setP l a = some x) : itemP (putI (hadP l) (bareI a)) = 0 := by
  rcases item_kinds ha with ⟨h, h2⟩ | ⟨h, h2⟩ | ⟨h, h2⟩
  · unfold putI bareI itemP
    simp [h, h2]
  · unfold putI bareI itemP
    simp [h, h2]
  · unfold setP at hx
    simp [h] at hx
    have := look_wrong h0 hx
    unfold putI bareI itemP hadP
    simp [h, hx, this]
theorem items_zero {M : List ItemD} (h1 : M.length ≤ 20) (h2 : ∀ a ∈ M, itemP a = 0) : itemsP M = 0 := by
  unfold itemsP
  rw [if_neg (by omega)]
  clear h1
  induction M with
  | nil => rfl
  | cons a M ih => rw [itemsGo, if_pos (h2 a (by simp)), ih (fun b hb => h2 b (by simp [hb]))]
theorem items_put (h0 : ∀ p ∈ l, partP p = 0) {M : List ItemD} (hM : itemsP M = 0) {x : List Spans} (hx : setsP l M = some x) : itemsP ((M.map bareI).map (putI (hadP l))) = 0 := by
  obtain ⟨h1, h2⟩ := items_ok hM
  refine items_zero (by simpa using h1) (fun a ha => ?_)
  rw [List.map_map] at ha
  obtain ⟨b, hb, rfl⟩ := List.mem_map.1 ha
  obtain ⟨s, hs⟩ := set_mem hx b hb
  exact item_put h0 (h2 b hb) hs
theorem plain_put (f : ByteArray → Spans) (M : List ItemD) : plainB ((M.map bareI).map (putI f)) = plainB M := by
  unfold plainB
  induction M with
  | nil => rfl
  | cons a M ih =>
    rw [List.map_cons, List.map_cons, List.all_cons, List.all_cons, ih]
    congr 1
    unfold putI bareI
    by_cases h : a.kind = 3
    · simp [h]
    · simp [h]
theorem side_put (h0 : ∀ p ∈ l, partP p = 0) {s : SideD} {must : Bool} (hs : sideP s must = 0) {x y z : List Spans} (hx : setsP l s.before = some x) (hy : setsP l s.source = some y) (hz : setsP l s.after = some z) : sideP (putS (hadP l) (bareS s)) must = 0 := by
  obtain ⟨h1, h2, h3⟩ := side_ok hs
  have e1 := items_put h0 h1 hx
  have e2 := items_put h0 h2 hy
  have e3 := items_put h0 h3 hz
  have eA : itemsAll [(putS (hadP l) (bareS s)).before, (putS (hadP l) (bareS s)).source, (putS (hadP l) (bareS s)).after] = 0 := by
    show itemsAll [(s.before.map bareI).map (putI (hadP l)), (s.source.map bareI).map (putI (hadP l)), (s.after.map bareI).map (putI (hadP l))] = 0
    simp only [itemsAll, e1, e2, e3, if_true]
  have eB : itemsAll [s.before, s.source, s.after] = 0 := by
    simp only [itemsAll, h1, h2, h3, if_true]
  unfold sideP at hs ⊢
  rw [if_pos eA]
  rw [if_pos eB] at hs
  simpa [putS, bareS] using hs
theorem around_put (f : ByteArray → Spans) (s : SideD) : aroundB (putS f (bareS s)) = aroundB s := by
  unfold aroundB putS bareS
  simp
theorem fit_put (f : ByteArray → Spans) (d : Int) (a b : SideD) : fitB d (putS f (bareS a)) (putS f (bareS b)) = fitB d a b := by
  unfold fitB
  rw [around_put, around_put]
  show ((d == 2 || plainB ((b.source.map bareI).map (putI f))) && (d == 1 || plainB ((a.source.map bareI).map (putI f))) && (d != 1 || (!aroundB b && decide (a.cursor < 0))) && (d != 2 || (!aroundB a && decide (b.cursor < 0)))) = _
  rw [plain_put, plain_put]
/-- What a rule's sides hold is known. -/
theorem rule_sets {f t : SideD} {r : RuleD} (h : ruleP' l f t = some r) : ∃ x y z, setsP l f.before = some x ∧ setsP l f.source = some y ∧ setsP l f.after = some z := by
  unfold ruleP' at h
  cases h1 : setsP l f.before with
  | none => rw [h1] at h; cases h
  | some x =>
    cases h2 : setsP l f.source with
    | none => rw [h1, h2] at h; cases h
    | some y =>
      cases h3 : setsP l f.after with
      | none => rw [h1, h2, h3] at h; cases h
      | some z => exact ⟨x, y, z, rfl, rfl, rfl⟩
theorem runes_put (f : ByteArray → Spans) {M : List ItemD} (h : ∀ a ∈ M, a.kind = 1) : ((M.map bareI).map (putI f)).map ItemD.rune = M.map ItemD.rune := by
  rw [List.map_map, List.map_map]
  refine List.map_congr_left (fun a ha => ?_)
  have := h a ha
  simp [putI, bareI, this]
theorem plain_kinds {M : List ItemD} (h : plainB M = true) : ∀ a ∈ M, a.kind = 1 := by
  intro a ha
  have := List.all_eq_true.1 h a ha
  simpa using this
theorem part_vars (h0 : ∀ p ∈ l, partP p = 0) {p : PartD} (hp : partP p = 0) (hr : p.kind = 2 → ∃ x y, ruleP' l p.left p.right = some x ∧ ruleP' l p.right p.left = some y) : partP (varD l p) = 0 := by
  rcases part_kinds hp with ⟨h, h2, h3⟩ | ⟨h, h2⟩ | ⟨h, h2⟩ | ⟨h, h2⟩
  · unfold varD bareD partP
    simp [h, h2, h3]
  · unfold varD bareD partP
    simp [h, h2]
  · unfold varD bareD partP
    simp [h, h2]
  · obtain ⟨x, y, hx, hy⟩ := hr h
    rw [part_rule h, rule_zero] at hp
    obtain ⟨x1, x2, x3, e1, e2, e3⟩ := rule_sets hx
    obtain ⟨y1, y2, y3, g1, g2, g3⟩ := rule_sets hy
    unfold varD
    rw [if_pos h, part_rule (by exact h), rule_zero]
    exact ⟨hp.1, side_put h0 hp.2.1 e1 e2 e3, side_put h0 hp.2.2.1 g1 g2 g3, by rw [fit_put]; exact hp.2.2.2⟩
end

theorem rule_put {l : List PartD} {L : List PartD} {f t : SideD} (hf : itemsP f.before = 0 ∧ itemsP f.source = 0 ∧ itemsP f.after = 0) {x : RuleD} (hx : ruleP' l f t = some x) :
    ∃ x', ruleP' L (putS (hadP l) (bareS f)) (putS (hadP l) (bareS t)) = some x' ∧ (plainB t.source = true → x' = x) := by
  obtain ⟨s1, s2, s3, e1, e2, e3⟩ := rule_sets hx
  have g1 := setsP_put (L := L) (items_ok hf.1).2 e1
  have g2 := setsP_put (L := L) (items_ok hf.2.1).2 e2
  have g3 := setsP_put (L := L) (items_ok hf.2.2).2 e3
  have hX : ruleP' L (putS (hadP l) (bareS f)) (putS (hadP l) (bareS t)) = some ⟨f.start, f.fin, s1, s2, s3, ((t.source.map bareI).map (putI (hadP l))).map ItemD.rune, if t.cursor < 0 then (((t.source.map bareI).map (putI (hadP l))).length : Int) else t.cursor⟩ := by
    unfold ruleP'
    show (match setsP L ((f.before.map bareI).map (putI (hadP l))), setsP L ((f.source.map bareI).map (putI (hadP l))), setsP L ((f.after.map bareI).map (putI (hadP l))) with
      | some a, some b, some c => some (RuleD.mk f.start f.fin a b c (((t.source.map bareI).map (putI (hadP l))).map ItemD.rune) (if t.cursor < 0 then (((t.source.map bareI).map (putI (hadP l))).length : Int) else t.cursor))
      | _, _, _ => none) = _
    rw [g1, g2, g3]
  refine ⟨_, hX, fun hp => ?_⟩
  unfold ruleP' at hx
  rw [e1, e2, e3] at hx
  cases hx
  rw [runes_put _ (plain_kinds hp), List.length_map, List.length_map]
theorem step_vars {l : List PartD} {back : Bool} {k : Nat} {p : PartD} {s t : StD} (h0 : partP p = 0) (h : stepP back l k p s = .ok t) : stepP back (varsP l) k (varD (l.take k) p) s = .ok t := by
  have hL := fun s => look_vars l s k
  unfold stepP at h ⊢
  rw [var_kind]
  rcases part_kinds h0 with ⟨h1, _⟩ | ⟨h1, _⟩ | ⟨h1, _⟩ | ⟨h1, hr⟩
  · rw [if_pos h1] at h ⊢
    rw [var_name (.inl h1), hL]
    exact h
  · rw [if_neg (by omega), if_pos h1] at h ⊢
    rw [var_set (.inr h1)]
    exact h
  · rw [if_neg (by omega), if_neg (by omega), if_pos h1] at h ⊢
    rw [var_name (.inr h1)]
    exact h
  · rw [if_neg (by omega), if_neg (by omega), if_neg (by omega)] at h ⊢
    rw [part_rule h1, rule_zero] at h0
    cases hx : ruleP' (l.take k) p.left p.right with
    | none => rw [hx] at h; cases h
    | some x =>
      cases hy : ruleP' (l.take k) p.right p.left with
      | none => rw [hx, hy] at h; cases h
      | some y =>
        rw [hx, hy] at h
        obtain ⟨x', hx', ex⟩ := rule_put (L := (varsP l).take k) hr.2.1 hx
        obtain ⟨y', hy', ey⟩ := rule_put (L := (varsP l).take k) hr.2.2 hy
        have ev : varD (l.take k) p = ⟨p.kind, ⟨#[]⟩, [], p.dir, putS (hadP (l.take k)) (bareS p.left), putS (hadP (l.take k)) (bareS p.right)⟩ := by unfold varD; rw [if_pos h1]
        rw [ev]
        dsimp only
        rw [hx', hy']
        have hfit := h0.2.2.2
        unfold fitB at hfit
        simp only [Bool.and_eq_true, Bool.or_eq_true, beq_iff_eq] at hfit
        cases back
        · by_cases hd : p.dir = 2
          · simpa [hd] using h
          · rw [ex (hfit.1.1.1.resolve_left hd)]
            simpa [hd] using h
        · by_cases hd : p.dir = 1
          · simpa [hd] using h
          · rw [ey (hfit.1.1.2.resolve_left hd)]
            simpa [hd] using h
theorem ready_vars_k {l : List PartD} (hw : (fileP l).1 = 0) {back : Bool} {s : StD} (h : uptoP back l l.length = .ok s) : ∀ k, k ≤ l.length → ∃ t, uptoP back l k = .ok t ∧ uptoP back (varsP l) k = .ok t := by
  have h0 := (file_zero.1 hw).2
  intro k hk
  induction k with
  | zero => exact ⟨_, rfl, rfl⟩
  | succ k ih =>
    obtain ⟨t, h1, h2⟩ := ih (by omega)
    obtain ⟨p, hp⟩ : ∃ z, l[k]? = some z := ⟨_, List.getElem?_eq_getElem (by omega)⟩
    rw [uptoP_step h1 hp, uptoP_step h2 (vars_at hp)]
    cases hs : stepP back l k p t with
    | error e =>
      have := uptoP_error (uptoP_step h1 hp ▸ hs) l.length hk
      rw [h] at this
      cases this
    | ok u => exact ⟨u, rfl, step_vars (h0 p (List.mem_of_getElem? hp)) hs⟩
theorem step_rule_ok {l : List PartD} {back : Bool} {k : Nat} {p : PartD} {s t : StD} (h2 : p.kind = 2) (h : stepP back l k p s = .ok t) : ∃ x y, ruleP' (l.take k) p.left p.right = some x ∧ ruleP' (l.take k) p.right p.left = some y := by
  unfold stepP at h
  rw [if_neg (by omega), if_neg (by omega), if_neg (by omega)] at h
  cases hx : ruleP' (l.take k) p.left p.right with
  | none => rw [hx] at h; cases h
  | some x =>
    cases hy : ruleP' (l.take k) p.right p.left with
    | none => rw [hx, hy] at h; cases h
    | some y => exact ⟨x, y, rfl, rfl⟩
theorem upto_code {back : Bool} {l : List PartD} : ∀ {k : Nat} {e : Int × Int}, uptoP back l k = .error e → e.1 ≠ 0 := by
  intro k
  induction k with
  | zero => intro e h; cases h
  | succ k ih =>
    intro e h
    cases h1 : uptoP back l k with
    | error e' =>
      rw [uptoP, h1] at h
      cases h
      exact ih h1
    | ok s =>
      cases hp : l[k]? with
      | none =>
        rw [uptoP, h1] at h
        simp only [hp] at h
        cases h
      | some p =>
        rw [uptoP_step h1 hp] at h
        unfold stepP at h
        by_cases k1 : p.kind = 1
        · rw [if_pos k1] at h
          cases hl : lookP (l.take k) p.name with
          | some x => rw [hl] at h; cases h; simp
          | none => rw [hl] at h; cases h
        rw [if_neg k1] at h
        by_cases k3 : p.kind = 3
        · rw [if_pos k3] at h
          by_cases hs : s.some? = true
          · rw [if_pos hs] at h; cases h; simp
          · rw [if_neg hs] at h; cases h
        rw [if_neg k3] at h
        by_cases k4 : p.kind = 4
        · rw [if_pos k4] at h; cases h
        rw [if_neg k4] at h
        cases hx : ruleP' (l.take k) p.left p.right with
        | none => rw [hx] at h; cases h; simp
        | some x =>
          cases hy : ruleP' (l.take k) p.right p.left with
          | none => rw [hx, hy] at h; cases h; simp
          | some y => rw [hx, hy] at h; cases h
/-- THE LAW: with each variable's set in the place of its name a file's script is the same. -/
theorem ready_vars {back : Bool} {l : List PartD} (h : (readyP back l).2.1 = 0) : readyP back (varsP l) = readyP back l := by
  by_cases hw : (fileP l).1 = 0
  · have h0 := (file_zero.1 hw).2
    cases hu : uptoP back l l.length with
    | error e =>
      have hr := readyP_error hw (Nat.le_refl _) hu
      rw [hr] at h
      exact absurd h (upto_code hu)
    | ok s =>
      have hk := ready_vars_k hw hu
      have hw2 : (fileP (varsP l)).1 = 0 := by
        refine file_zero.2 ⟨by rw [vars_len]; exact (file_zero.1 hw).1, fun q hq => ?_⟩
        obtain ⟨k, hq⟩ := List.getElem?_of_mem hq
        have hkl : k < l.length := by
          have := List.getElem?_eq_some_iff.1 hq
          obtain ⟨h1, _⟩ := this
          rwa [vars_len] at h1
        obtain ⟨p, hp⟩ : ∃ z, l[k]? = some z := ⟨_, List.getElem?_eq_getElem hkl⟩
        rw [vars_at hp] at hq
        cases hq
        obtain ⟨t, h1, _⟩ := hk k (by omega)
        obtain ⟨u, h3, _⟩ := hk (k + 1) (by omega)
        rw [uptoP_step h1 hp] at h3
        exact part_vars (fun q hq => h0 q (List.mem_of_mem_take hq)) (h0 p (List.mem_of_getElem? hp)) (fun h2 => step_rule_ok h2 h3)
      obtain ⟨t, h1, h2⟩ := hk l.length (Nat.le_refl _)
      rw [hu] at h1
      cases h1
      rw [readyP_ok hw hu, readyP_ok hw2 (by rw [vars_len]; exact h2)]
  · rw [readyP_wrong hw] at h
    exact absurd h hw

end Go.Proofs.Ythcjiainpaebfaa

/- Items, sides and parts in memory, by the blocks that they stand in. -/
namespace Go.Proofs.Ythcjiainpaebfaa
open Go.RowKit

def ItemX (w : World) (X : Nat → Prop) (a : ItemD) (cs : List Value) : Prop :=
  ∃ A n c, cs = [.int .i64 a.kind, .int .i32 a.rune, .slice A n c, .string a.name] ∧ RdX w X 2 A n (spanCells a.set) ∧ n ≤ maxLen ∧ i64R a.kind ∧ a.name.size ≤ maxLen
def ItemsX (w : World) (X : Nat → Prop) (A : Option Addr) (n : Nat) (l : List ItemD) : Prop := ListX (ItemX w X) w X 4 A n l
def SideX (w : World) (X : Nat → Prop) (s : SideD) (cs : List Value) : Prop :=
  ∃ A1 n1 c1 A2 n2 c2 A3 n3 c3, cs = [.bool s.start, .bool s.fin, .slice A1 n1 c1, .slice A2 n2 c2, .slice A3 n3 c3, .int .i64 s.cursor] ∧
    ItemsX w X A1 n1 s.before ∧ ItemsX w X A2 n2 s.source ∧ ItemsX w X A3 n3 s.after ∧ n1 ≤ maxLen ∧ n2 ≤ maxLen ∧ n3 ≤ maxLen ∧ i64R s.cursor
def PartX (w : World) (X : Nat → Prop) (p : PartD) (cs : List Value) : Prop :=
  ∃ A n c ls rs, cs = [.int .i64 p.kind, .string p.name, .slice A n c, .int .i64 p.dir] ++ ls ++ rs ∧ RdX w X 2 A n (spanCells p.set) ∧ n ≤ maxLen ∧ SideX w X p.left ls ∧ SideX w X p.right rs ∧ i64R p.kind ∧ i64R p.dir ∧ p.name.size ≤ maxLen
def PartsX (w : World) (X : Nat → Prop) (A : Option Addr) (n : Nat) (l : List PartD) : Prop := ListX (PartX w X) w X 16 A n l

section
variable {w w' : World} {X X' : Nat → Prop} (hk : Keeps w X w' X')
include hk
theorem ItemX.keep {a : ItemD} {cs : List Value} (h : ItemX w X a cs) : ItemX w' X' a cs := by
  obtain ⟨A, n, c, e, h1, h2⟩ := h
  exact ⟨A, n, c, e, h1.keep hk, h2⟩
theorem ItemsX.keep {A : Option Addr} {n : Nat} {l : List ItemD} (h : ItemsX w X A n l) : ItemsX w' X' A n l := ListX.keep hk (fun _ _ => ItemX.keep hk) h
theorem SideX.keep {s : SideD} {cs : List Value} (h : SideX w X s cs) : SideX w' X' s cs := by
  obtain ⟨A1, n1, c1, A2, n2, c2, A3, n3, c3, e, h1, h2, h3, h4⟩ := h
  exact ⟨A1, n1, c1, A2, n2, c2, A3, n3, c3, e, h1.keep hk, h2.keep hk, h3.keep hk, h4⟩
theorem PartX.keep {p : PartD} {cs : List Value} (h : PartX w X p cs) : PartX w' X' p cs := by
  obtain ⟨A, n, c, ls, rs, e, h1, h2, h3, h4, h5⟩ := h
  exact ⟨A, n, c, ls, rs, e, h1.keep hk, h2, h3.keep hk, h4.keep hk, h5⟩
theorem PartsX.keep {A : Option Addr} {n : Nat} {l : List PartD} (h : PartsX w X A n l) : PartsX w' X' A n l := ListX.keep hk (fun _ _ => PartX.keep hk) h
end
/- From what lies below a bound, and back. -/
section
variable {α : Type} {w : World} {B sz n : Nat} {A : Option Addr}
theorem ListX.of_rd {R R' : α → List Value → Prop} {l : List α} (hB : B ≤ w.heap.size) (hR : ∀ a cs, R a cs → R' a cs) (h : RdL R w B sz A n l) : ListX R' w (· < B) sz A n l := by
  obtain ⟨css, h1, h2, h3, h4, h5⟩ := h
  exact ⟨css, h1, h2, fun i a cs ha hc => hR a cs (h3 i a cs ha hc), h4, RdX.of_rd h5 hB (fun _ h => h)⟩
theorem ItemX.of_c (hB : B ≤ w.heap.size) {a : ItemD} {cs : List Value} (h : ItemC w B a cs) : ItemX w (· < B) a cs := by
  obtain ⟨A, n, c, e, h1, h2⟩ := h
  exact ⟨A, n, c, e, RdX.of_rd h1 hB (fun _ h => h), h2⟩
theorem ItemsX.of_rd (hB : B ≤ w.heap.size) {l : List ItemD} (h : RdIt w B A n l) : ItemsX w (· < B) A n l := ListX.of_rd hB (fun _ _ => ItemX.of_c hB) h
theorem SideX.of_c (hB : B ≤ w.heap.size) {s : SideD} {cs : List Value} (h : SideC w B s cs) : SideX w (· < B) s cs := by
  obtain ⟨A1, n1, c1, A2, n2, c2, A3, n3, c3, e, h1, h2, h3, h4⟩ := h
  exact ⟨A1, n1, c1, A2, n2, c2, A3, n3, c3, e, .of_rd hB h1, .of_rd hB h2, .of_rd hB h3, h4⟩
theorem PartX.of_c (hB : B ≤ w.heap.size) {p : PartD} {cs : List Value} (h : PartC w B p cs) : PartX w (· < B) p cs := by
  obtain ⟨A, n, c, ls, rs, e, h1, h2, h3, h4, h5⟩ := h
  exact ⟨A, n, c, ls, rs, e, RdX.of_rd h1 hB (fun _ h => h), h2, .of_c hB h3, .of_c hB h4, h5⟩
theorem PartsX.of_rd (hB : B ≤ w.heap.size) {l : List PartD} (h : RdP w B A n l) : PartsX w (· < B) A n l := ListX.of_rd hB (fun _ _ => PartX.of_c hB) h
variable {X : Nat → Prop}
theorem ListX.rd {R R' : α → List Value → Prop} {l : List α} (hR : ∀ a cs, R a cs → R' a cs) (h : ListX R w X sz A n l) : RdL R' w w.heap.size sz A n l := by
  obtain ⟨css, h1, h2, h3, h4, h5⟩ := h
  exact ⟨css, h1, h2, fun i a cs ha hc => hR a cs (h3 i a cs ha hc), h4, h5.rd (fun _ _ h => h)⟩
theorem ItemX.rd {a : ItemD} {cs : List Value} (h : ItemX w X a cs) : ItemC w w.heap.size a cs := by
  obtain ⟨A, n, c, e, h1, h2⟩ := h
  exact ⟨A, n, c, e, h1.rd (fun _ _ h => h), h2⟩
theorem ItemsX.rd {l : List ItemD} (h : ItemsX w X A n l) : RdIt w w.heap.size A n l := ListX.rd (fun _ _ => ItemX.rd) h
theorem SideX.rd {s : SideD} {cs : List Value} (h : SideX w X s cs) : SideC w w.heap.size s cs := by
  obtain ⟨A1, n1, c1, A2, n2, c2, A3, n3, c3, e, h1, h2, h3, h4⟩ := h
  exact ⟨A1, n1, c1, A2, n2, c2, A3, n3, c3, e, h1.rd, h2.rd, h3.rd, h4⟩
theorem PartX.rd {p : PartD} {cs : List Value} (h : PartX w X p cs) : PartC w w.heap.size p cs := by
  obtain ⟨A, n, c, ls, rs, e, h1, h2, h3, h4, h5⟩ := h
  exact ⟨A, n, c, ls, rs, e, h1.rd (fun _ _ h => h), h2, h3.rd, h4.rd, h5⟩
theorem PartsX.rd {l : List PartD} (h : PartsX w X A n l) : RdP w w.heap.size A n l := ListX.rd (fun _ _ => PartX.rd) h
theorem ItemX.one {a : ItemD} {cs : List Value} (h : ItemX w X a cs) : cs.length = 4 ∧ ∀ u ∈ cs, u.oneCell' = true := by
  obtain ⟨A, n, c, rfl, _⟩ := h
  refine ⟨rfl, fun u hu => ?_⟩
  simp at hu
  rcases hu with rfl | rfl | rfl | rfl <;> rfl
theorem PartX.one {p : PartD} {cs : List Value} (h : PartX w X p cs) : cs.length = 16 ∧ ∀ u ∈ cs, u.oneCell' = true := by
  obtain ⟨A, n, c, ls, rs, rfl, _, _, ⟨A1, n1, c1, A2, n2, c2, A3, n3, c3, rfl, _⟩, ⟨B1, m1, d1, B2, m2, d2, B3, m3, d3, rfl, _⟩, _⟩ := h
  refine ⟨rfl, fun u hu => ?_⟩
  simp at hu
  rcases hu with rfl | rfl | rfl | rfl | rfl | rfl | rfl | rfl | rfl | rfl | rfl | rfl | rfl | rfl | rfl | rfl <;> rfl
theorem PartX.form {q : PartD} {cs : List Value} (h : PartX w X q cs) : ∃ A' n' c' L1 a1 x1 L2 a2 x2 L3 a3 x3 R1 b1 y1 R2 b2 y2 R3 b3 y3, cs = [.int .i64 q.kind, .string q.name, .slice A' n' c', .int .i64 q.dir, .bool q.left.start, .bool q.left.fin, .slice L1 a1 x1, .slice L2 a2 x2, .slice L3 a3 x3, .int .i64 q.left.cursor, .bool q.right.start, .bool q.right.fin, .slice R1 b1 y1, .slice R2 b2 y2, .slice R3 b3 y3, .int .i64 q.right.cursor] := by
  obtain ⟨A, n, c, ls, rs, rfl, _, _, ⟨A1, n1, c1, A2, n2, c2, A3, n3, c3, rfl, _⟩, ⟨B1, m1, d1, B2, m2, d2, B3, m3, d3, rfl, _⟩, _⟩ := h
  exact ⟨A, n, c, A1, n1, c1, A2, n2, c2, A3, n3, c3, B1, m1, d1, B2, m2, d2, B3, m3, d3, rfl⟩
theorem RdX.nil (sz : Nat) : RdX w X sz none 0 [] := ⟨by simp, fun h => absurd h (Nat.lt_irrefl 0)⟩
theorem ItemsX.nil : ItemsX w X none 0 [] := ⟨[], rfl, rfl, by simp, by simp, RdX.nil 4⟩
theorem zero_side : SideX w X zeroS [.bool false, .bool false, .slice none 0 0, .slice none 0 0, .slice none 0 0, .int .i64 0] :=
  ⟨none, 0, 0, none, 0, 0, none, 0, 0, rfl, ItemsX.nil, ItemsX.nil, ItemsX.nil, Nat.zero_le _, Nat.zero_le _, Nat.zero_le _, by unfold i64R zeroS; dsimp only; omega⟩
end

/-- The blocks below B, and those from lo on but the row v. -/
def RowX (B lo : Nat) (v : Value) (b : Nat) : Prop := b < B ∨ (lo ≤ b ∧ v.ownBlock ≠ some b)
theorem row_app {B lo sz n0 m : Nat} {e : TypeId} {v v' : Value} {xs ys : List Value} {w w2 : World} (hB : B ≤ lo) (ho : w.ownsRow lo e sz v n0 xs) (ha : Appended lo e sz v w m ys v' w2) : Keeps w (RowX B lo v) w2 (RowX B lo v') := by
  refine Keeps.app ha (fun b hb => ?_) (fun b hb hl => ?_)
  · rcases hb with h | h
    · intro e
      have := (own_lt ho e).1
      omega
    · exact h.2
  · rcases hb with h | h
    · exact .inl h
    · refine .inr ⟨h.1, ?_⟩
      rcases ha.2.2 with e | e
      · rw [e]; exact h.2
      · rw [e]
        intro h
        injection h with h
        omega
theorem infoItem : (Try.prog.info? 43).map (fun i => (i.zero, i.size, i.bytes)) = some (some (.agg #[.int .i64 0, .int .i32 0, .slice none 0 0, .string ⟨#[]⟩]), 4, 56) := by kernel_rfl
theorem infoPartZ : (Try.prog.info? 40).map (fun i => (i.zero, i.size, i.bytes)) = some (some (.agg #[.int .i64 0, .string ⟨#[]⟩, .slice none 0 0, .int .i64 0, .bool false, .bool false, .slice none 0 0, .slice none 0 0, .slice none 0 0, .int .i64 0, .bool false, .bool false, .slice none 0 0, .slice none 0 0, .slice none 0 0, .int .i64 0]), 16, 232) := by kernel_rfl

end Go.Proofs.Ythcjiainpaebfaa

/- scriptref5.bareItems: items with what kinds have alone. -/
namespace Go.Proofs.Ythcjiainpaebfaa
open Go.RowKit Go.Maps

def BiRel (w : World) (B : Nat) (l : List ItemD) (n : Nat) (m i : Value) (wr : World) : Prop :=
  ∃ (k : Nat), k ≤ n ∧ i = .int .i64 k ∧ OwnL (ItemX w (· < B)) 43 4 wr w.heap.size m ((l.take k).map bareI) ∧ Below w.heap.size w wr
section
variable {w : World} {X : Nat → Prop} {p : ItemD}
theorem bare_1 (h : p.kind = 1) (hk : i64R p.kind) : ItemX w X (bareI p) [.int .i64 p.kind, .int .i32 p.rune, .slice none 0 0, .string ⟨#[]⟩] := by
  have e : bareI p = ⟨p.kind, p.rune, [], ⟨#[]⟩⟩ := by unfold bareI; simp [h]
  rw [e]
  exact ⟨none, 0, 0, rfl, RdX.nil 2, Nat.zero_le _, hk, Nat.zero_le _⟩
theorem bare_2 (h : p.kind = 2) (hk : i64R p.kind) {A : Option Addr} {n c : Nat} (hs : RdX w X 2 A n (spanCells p.set)) (hn : n ≤ maxLen) : ItemX w X (bareI p) [.int .i64 p.kind, .int .i32 0, .slice A n c, .string ⟨#[]⟩] := by
  have e : bareI p = ⟨p.kind, 0, p.set, ⟨#[]⟩⟩ := by unfold bareI; simp [h]
  rw [e]
  exact ⟨A, n, c, rfl, hs, hn, hk, Nat.zero_le _⟩
theorem bare_3 (h : p.kind = 3) (hk : i64R p.kind) (hn : p.name.size ≤ maxLen) : ItemX w X (bareI p) [.int .i64 p.kind, .int .i32 0, .slice none 0 0, .string p.name] := by
  have e : bareI p = ⟨p.kind, 0, [], p.name⟩ := by unfold bareI; simp [h]
  rw [e]
  exact ⟨none, 0, 0, rfl, RdX.nil 2, Nat.zero_le _, hk, hn⟩
end
set_option maxRecDepth 100000 in
set_option maxHeartbeats 3200000 in
theorem bare_items (B : Nat) (A : Option Addr) (n c : Nat) (l : List ItemD) (w : World) (hn : n ≤ 20) (hl : ItemsX w (· < B) A n l) (hk : ∀ a ∈ l, itemP a = 0) :
    Calls Try.prog 33 #[.slice A n c] w fun e w' => (∃ A' c', e = .returned (.slice A' n c') ∧ ItemsX w' (Fr B w.heap.size) A' n (l.map bareI)) ∧ Below w.heap.size w w' := by
  obtain ⟨i0, hi, hz0, hz1, hz2⟩ := info_parts infoItem
  have HLEN := Lib.hid hl.len
  have HL := Lib.hid hl
  have HK := Lib.hid hk
  have hn2 : n ≤ 9223372036854775807 := by omega
  clear hl hk
  go_enter Try.func33, Try.ntmps33
  go_wp2_with fail
  go_loopw [3, 9] (BiRel w B l n) (fun _ i _ => n - (intOf i).toNat)
  case atStart => exact ⟨0, Nat.zero_le _, rfl, OwnL.nil _ _, Below.refl _ _⟩
  case round =>
    obtain ⟨k, hk, rfl, hown, hb⟩ := hrel
    by_cases hlt : k < n
    · obtain ⟨p, hp⟩ : ∃ z, l[k]? = some z := ⟨_, List.getElem?_eq_getElem (by rw [HLEN.out]; exact hlt)⟩
      have hpk := item_kinds (HK.out p (List.mem_of_getElem? hp))
      obtain ⟨b, off, cs, rfl, hbb, hbl, hpc, _, hfc⟩ := ListX.at HL.out hp
      obtain ⟨A', n', c', rfl, hset, hn', hkd, hnm⟩ := hpc
      have d0 : wr.cell? ⟨b, off + k * 4, none⟩ = some (.int .i64 p.kind) := (hb.cell (p := ⟨b, off + k * 4, none⟩) hbl).trans (hfc 0 _ rfl)
      have d1 : wr.cell? ⟨b, off + k * 4 + 1, none⟩ = some (.int .i32 p.rune) := (hb.cell (p := ⟨b, off + k * 4 + 1, none⟩) hbl).trans (hfc 1 _ rfl)
      have d2 : wr.cell? ⟨b, off + k * 4 + 2, none⟩ = some (.slice A' n' c') := (hb.cell (p := ⟨b, off + k * 4 + 2, none⟩) hbl).trans (hfc 2 _ rfl)
      have d3 : wr.cell? ⟨b, off + k * 4 + 3, none⟩ = some (.string p.name) := (hb.cell (p := ⟨b, off + k * 4 + 3, none⟩) hbl).trans (hfc 3 _ rfl)
      have HOWN := Lib.hid hown
      have HB := Lib.hid hb
      have HX := Lib.hid (two_new wr 43 43 #[.int .i64 p.kind, .int .i32 p.rune, .slice A' n' c', .string p.name] #[.int .i64 p.kind, .int .i32 0, .slice none 0 0, .string ⟨#[]⟩])
      have HTK := Lib.hid (take_snoc hp)
      have HSET := Lib.hid hset
      have HKD := Lib.hid hkd
      have HPK := Lib.hid hpk
      have hml : ((l.take k).map bareI).length = k := by rw [List.length_map, List.length_take, HLEN.out]; omega
      clear hfc hpk hown hb hp hset hkd
      go_upto_block 2 with fail
      have x0 := HX.out.1
      have x1 := HX.out.2.1
      have x2 := HX.out.2.2.1
      clear HX d0 d1 d2 d3
      generalize ((wr.alloc (.cells #[.int .i64 p.kind, .int .i32 p.rune, .slice A' n' c', .string p.name] 43)).alloc (.cells #[.int .i64 p.kind, .int .i32 0, .slice none 0 0, .string ⟨#[]⟩] 43)) = W2 at *
      have e1 : W2.cell? ⟨wr.heap.size, 1, none⟩ = some (.int .i32 p.rune) := x0.cell 1
      have e2 : W2.cell? ⟨wr.heap.size, 2, none⟩ = some (.slice A' n' c') := x0.cell 2
      have e3 : W2.cell? ⟨wr.heap.size, 3, none⟩ = some (.string p.name) := x0.cell 3
      have f0 := x1.frozen 0
      have f1 := x1.frozen 1
      have f2 := x1.frozen 2
      have f3 := x1.frozen 3
      have g1 : W2.cell? ⟨wr.heap.size + 1, 1, none⟩ = some (.int .i32 0) := x1.cell 1
      have g2 : W2.cell? ⟨wr.heap.size + 1, 2, none⟩ = some (.slice none 0 0) := x1.cell 2
      have g3 : W2.cell? ⟨wr.heap.size + 1, 3, none⟩ = some (.string ⟨#[]⟩) := x1.cell 3
      have HX1 := Lib.hid x1
      have HX2 := Lib.hid x2
      have hlx := x1.lt
      clear x0 x1 x2
      go_cut [] (fun wx => ∃ cs : List Value, ItemX w (· < B) (bareI p) cs ∧ Blk wx (wr.heap.size + 1) 43 cs.toArray ∧ Below wr.heap.size wr wx)
      case first =>
        have hpk := HPK.out
        clear HPK
        rcases hpk with ⟨h, _⟩ | ⟨h, _⟩ | ⟨h, _⟩
        · have q1 : (p.kind == 1) = true := by rw [h]; rfl
          have HI := Lib.hid (bare_1 (w := w) (X := (· < B)) h HKD.out)
          clear h
          go_wp2_with fail
          go_meet
          exact ⟨_, HI.out, HX1.out.put 1 (.int .i32 p.rune), HX2.out.setCell (p := ⟨wr.heap.size + 1, 1, none⟩) (Nat.le_succ _) (.int .i32 p.rune)⟩
        · have q1 : (p.kind == 1) = false := by rw [h]; rfl
          have q2 : (p.kind == 2) = true := by rw [h]; rfl
          have HI := Lib.hid (bare_2 (w := w) (X := (· < B)) (c := c') h HKD.out HSET.out hn')
          clear h
          go_wp2_with fail
          go_meet
          exact ⟨_, HI.out, HX1.out.put 2 (.slice A' n' c'), HX2.out.setCell (p := ⟨wr.heap.size + 1, 2, none⟩) (Nat.le_succ _) (.slice A' n' c')⟩
        · have q1 : (p.kind == 1) = false := by rw [h]; rfl
          have q2 : (p.kind == 2) = false := by rw [h]; rfl
          have q3 : (p.kind == 3) = true := by rw [h]; rfl
          have HI := Lib.hid (bare_3 (w := w) (X := (· < B)) h HKD.out hnm)
          clear h
          go_wp2_with fail
          go_meet
          exact ⟨_, HI.out, HX1.out.put 3 (.string p.name), HX2.out.setCell (p := ⟨wr.heap.size + 1, 3, none⟩) (Nat.le_succ _) (.string p.name)⟩
      case rest =>
        obtain ⟨cs, hpc, hbx, hwx⟩ := hcut
        have hone := hpc.one
        have HTK2 := Lib.hid (show (l.take (k + 1)).map bareI = (l.take k).map bareI ++ [bareI p] by rw [HTK.out, List.map_append]; rfl)
        generalize bareI p = q at *
        generalize (l.take k).map bareI = M at *
        obtain ⟨A9, n9, c9, rfl, hq1, hq2⟩ := hpc
        have y0 : wc.cell? ⟨wr.heap.size + 1, 0, none⟩ = some (.int .i64 q.kind) := hbx.cell 0
        have y1 : wc.cell? ⟨wr.heap.size + 1, 1, none⟩ = some (.int .i32 q.rune) := hbx.cell 1
        have y2 : wc.cell? ⟨wr.heap.size + 1, 2, none⟩ = some (.slice A9 n9 c9) := hbx.cell 2
        have y3 : wc.cell? ⟨wr.heap.size + 1, 3, none⟩ = some (.string q.name) := hbx.cell 3
        obtain ⟨css, g1, g2, g3, g4⟩ := HOWN.out
        have hzc := hwx.size
        have HO := Lib.hid (World.ownsRow.alloc (own_below g4 hwx) (.cells #[.int .i64 q.kind, .int .i32 q.rune, .slice A9 n9 c9, .string q.name] 43))
        have HN2 := Lib.hid (Rd.new wc 43 4 1 [.int .i64 q.kind, .int .i32 q.rune, .slice A9 n9 c9, .string q.name] rfl)
        have H1C := Lib.hid hone.2
        have HPQ := Lib.hid (show ItemX w (· < B) q [.int .i64 q.kind, .int .i32 q.rune, .slice A9 n9 c9, .string q.name] from ⟨A9, n9, c9, rfl, hq1, hq2⟩)
        have HWC := Lib.hid hwx
        have G1 := Lib.hid g1
        have G2 := Lib.hid g2
        have G3 := Lib.hid g3
        have hbz := HB.out.size
        clear hbx hwx g1 g2 g3 g4 e1 e2 e3 f0 f1 f2 f3 hone hq1 hq2
        go_wp2_with (at_builtin; refine wpList_append_rd _ rfl (.tmp 33) (.tmp 35) 36 rfl w.heap.size 43 i0 _ 4 56 Try.underlying36 hi hz0 hz1 hz2 rfl (by decide) _ _ _ rfl HO.out _ (some ⟨wc.heap.size, 0, none⟩) 1 1 [.int .i64 q.kind, .int .i32 q.rune, .slice A9 n9 c9, .string q.name] rfl HN2.out H1C.out (by rw [hml]; unfold maxLen; omega) (by rw [hml]; omega) (by simp; omega) ?_)
        intro v9 w9 happ
        rw [← hml] at happ
        have HBN := Lib.hid ((HB.out.trans (HWC.out.mono hbz)).trans (((Below.refl _ _).alloc (Nat.le_trans hbz hzc) _).trans (happ.below (by simp; omega) HO.out)))
        have HOW := Lib.hid (OwnL.push G1.out G2.out G3.out (fun _ _ h => h) HPQ.out rfl happ)
        clear happ
        go_wp2_with fail
        refine ⟨⟨k + 1, hlt, by go_num, ?_, HBN.out⟩, by simp only [intOf]; omega⟩
        rw [HTK2.out]
        exact HOW.out
    · obtain rfl : k = n := by omega
      have htl : l.take k = l := by rw [List.take_of_length_le (by rw [HLEN.out]; exact Nat.le_refl _)]
      rw [htl] at hown
      obtain ⟨Am, km, rfl, _⟩ := hown.form
      have hmk : (l.map bareI).length = k := by rw [List.length_map, HLEN.out]
      have hres := OwnL.done hown (R' := ItemX wr (Fr B w.heap.size)) (X := Fr B w.heap.size) (fun _ _ => ItemX.keep (Keeps.below hb (fun _ h _ => .inl h))) (fun b hb' => by
        obtain ⟨_, _, _, _, h4⟩ := hown
        exact .inr (own_lt h4 hb').1)
      rw [hmk] at hres
      have HRES := Lib.hid hres
      have HB := Lib.hid hb
      clear hown hb hres
      rw [hmk]
      go_wp2_with fail
      go_ret
      exact ⟨⟨Am, km, rfl, HRES.out⟩, HB.out⟩

end Go.Proofs.Ythcjiainpaebfaa

/- scriptref5.bareSide: a side with what kinds have alone. -/
namespace Go.Proofs.Ythcjiainpaebfaa
open Go.RowKit Go.Maps

theorem six_of {g : Nat} {t : TypeId} {c0 c1 c2 c3 c4 c5 : Value} {wx : World} (h : Blk wx g t #[c0, c1, c2, c3, c4, c5]) :
    wx.cell? ⟨g, 0, none⟩ = some c0 ∧ wx.cell? ⟨g, 1, none⟩ = some c1 ∧ wx.cell? ⟨g, 2, none⟩ = some c2 ∧ wx.cell? ⟨g, 3, none⟩ = some c3 ∧ wx.cell? ⟨g, 4, none⟩ = some c4 ∧ wx.cell? ⟨g, 5, none⟩ = some c5 :=
  ⟨h.cell 0, h.cell 1, h.cell 2, h.cell 3, h.cell 4, h.cell 5⟩
theorem fr_set1 {w : World} {B m i : Nat} {u : Value} (hB : B ≤ m) : Keeps w (Fr B (m + 2)) (w.setCell ⟨m + 1, i, none⟩ u) (Fr B (m + 2)) := Keeps.setCell u (fun b hb => by rcases hb with h | h <;> dsimp only <;> omega) (fun _ h _ => h)
/-- What a call for items tells. -/
def BiPost (B lo : Nat) (n : Nat) (L : List ItemD) (e : Ending) (w' : World) : Prop := ∃ A' c', e = .returned (.slice A' n c') ∧ ItemsX w' (Fr B lo) A' n L
theorem infoSide : (Try.prog.info? 38).map (fun i => (i.zero, i.size)) = some (some (.agg #[.bool false, .bool false, .slice none 0 0, .slice none 0 0, .slice none 0 0, .int .i64 0]), 6) := by kernel_rfl
set_option maxRecDepth 100000 in
set_option maxHeartbeats 3200000 in
theorem bare_side (B : Nat) (s : SideD) (L1 L2 L3 : Option Addr) (a1 a2 a3 x1 x2 x3 : Nat) (w : World) (hB : B ≤ w.heap.size) (l1 : ItemsX w (· < B) L1 a1 s.before) (l2 : ItemsX w (· < B) L2 a2 s.source) (l3 : ItemsX w (· < B) L3 a3 s.after)
    (k1 : itemsP s.before = 0) (k2 : itemsP s.source = 0) (k3 : itemsP s.after = 0) (hc : i64R s.cursor) :
    Calls Try.prog 21 #[.agg #[.bool s.start, .bool s.fin, .slice L1 a1 x1, .slice L2 a2 x2, .slice L3 a3 x3, .int .i64 s.cursor]] w fun e w' => (∃ cs : List Value, e = .returned (.agg cs.toArray) ∧ SideX w' (Fr B w.heap.size) (bareS s) cs) ∧ Below w.heap.size w w' := by
  have hs := fun (w' : World) (hb : Below w.heap.size w w') (A' : Option Addr) (n' c' : Nat) (L : List ItemD) (hL : ItemsX w (· < B) A' n' L) (hok : itemsP L = 0) => bare_items B A' n' c' L w' (by rw [← hL.len]; exact (items_ok hok).1) (hL.keep (Keeps.below hb (fun _ h _ => h))) (items_ok hok).2
  have b1 : a1 ≤ 20 := by rw [← l1.len]; exact (items_ok k1).1
  have b2 : a2 ≤ 20 := by rw [← l2.len]; exact (items_ok k2).1
  have b3 : a3 ≤ 20 := by rw [← l3.len]; exact (items_ok k3).1
  have HS1 := Lib.hid (fun (w' : World) (hb : Below w.heap.size w w') => hs w' hb L1 a1 x1 s.before l1 k1)
  have HS2 := Lib.hid (fun (w' : World) (hb : Below w.heap.size w w') => hs w' hb L2 a2 x2 s.source l2 k2)
  have HS3 := Lib.hid (fun (w' : World) (hb : Below w.heap.size w w') => hs w' hb L3 a3 x3 s.after l3 k3)
  have HX0 := Lib.hid (two_new w 38 38 #[.bool s.start, .bool s.fin, .slice L1 a1 x1, .slice L2 a2 x2, .slice L3 a3 x3, .int .i64 s.cursor] #[.bool false, .bool false, .slice none 0 0, .slice none 0 0, .slice none 0 0, .int .i64 0])
  have HC := Lib.hid hc
  clear hs l1 l2 l3 k1 k2 k3 hc
  go_enter Try.func21, Try.ntmps21
  go_upto_region 1 with fail
  obtain ⟨hx0, hx1, hx2, hx3⟩ := HX0.out
  clear HX0
  generalize ((w.alloc (.cells #[.bool s.start, .bool s.fin, .slice L1 a1 x1, .slice L2 a2 x2, .slice L3 a3 x3, .int .i64 s.cursor] 38)).alloc (.cells #[.bool false, .bool false, .slice none 0 0, .slice none 0 0, .slice none 0 0, .int .i64 0] 38)) = W2 at *
  have HX := Lib.hid hx0
  have HY := Lib.hid hx1
  have HB2 := Lib.hid hx2
  have hz2 := hx3
  clear hx0 hx1 hx2 hx3
  refine wp_region_held_drew (S := (fun w' => w'.cell? ⟨w.heap.size, 0, none⟩ = some (.bool s.start) ∧ w'.cell? ⟨w.heap.size, 1, none⟩ = some (.bool s.fin) ∧ w'.cell? ⟨w.heap.size, 2, none⟩ = some (.slice L1 a1 x1) ∧ w'.cell? ⟨w.heap.size, 3, none⟩ = some (.slice L2 a2 x2) ∧ w'.cell? ⟨w.heap.size, 4, none⟩ = some (.slice L3 a3 x3) ∧ w'.cell? ⟨w.heap.size, 5, none⟩ = some (.int .i64 s.cursor))) (by kernel_rfl) (six_of (Blk.drewN HX.out 1)) (fun hHeld => ?_)
  try simp only [Act.put]
  refine wpAnyH_take (i := 0) (v := ?_) rfl (by kernel_rfl) (by kernel_rfl) (by kernel_rfl) (fun _ _ _ h => h) (Or.inl ⟨by rfl, ?_⟩) (by assumption) ?_
  rotate_left 1
  · intro w hSw
    (try dsimp only at hSw)
    go_simp
    try with_reducible rfl
  try simp only [Act.put]
  refine wpAnyH_take (i := 1) (v := ?_) rfl (by kernel_rfl) (by kernel_rfl) (by kernel_rfl) (fun _ _ _ h => h) (Or.inl ⟨by rfl, ?_⟩) (by assumption) ?_
  rotate_left 1
  · intro w hSw
    (try dsimp only at hSw)
    go_simp
    try with_reducible rfl
  try simp only [Act.put]
  refine wpAnyH_take (i := 2) (v := ?_) rfl (by kernel_rfl) (by kernel_rfl) (by kernel_rfl) (fun _ _ _ h => h) (Or.inl ⟨by rfl, ?_⟩) (by assumption) ?_
  rotate_left 1
  · intro w hSw
    (try dsimp only at hSw)
    go_simp
    try with_reducible rfl
  try simp only [Act.put]
  refine wpAnyH_take (i := 3) (v := ?_) rfl (by kernel_rfl) (by kernel_rfl) (by kernel_rfl) (fun _ _ _ h => h) (Or.inl ⟨by rfl, ?_⟩) (by assumption) ?_
  rotate_left 1
  · intro w hSw
    (try dsimp only at hSw)
    go_simp
    try with_reducible rfl
  try simp only [Act.put]
  refine wpAnyH_take (i := 4) (v := ?_) rfl (by kernel_rfl) (by kernel_rfl) (by kernel_rfl) (fun _ _ _ h => h) (Or.inl ⟨by rfl, ?_⟩) (by assumption) ?_
  rotate_left 1
  · intro w hSw
    (try dsimp only at hSw)
    go_simp
    try with_reducible rfl
  try simp only [Act.put]
  refine wpAnyH_take (i := 5) (v := ?_) rfl (by kernel_rfl) (by kernel_rfl) (by kernel_rfl) (fun _ _ _ h => h) (Or.inl ⟨by rfl, ?_⟩) (by assumption) ?_
  rotate_left 1
  · intro w hSw
    (try dsimp only at hSw)
    go_simp
    try with_reducible rfl
  try simp only [Act.put]
  refine wpAnyH_take (i := 7) (v := ?_) rfl (by kernel_rfl) (by kernel_rfl) (by kernel_rfl) (fun _ _ _ h => h) (Or.inl ⟨by rfl, ?_⟩) (by assumption) ?_
  rotate_left 1
  · intro w hSw
    (try dsimp only at hSw)
    go_simp
    try with_reducible rfl
  try simp only [Act.put]
  refine wpAnyH_take (i := 8) (v := ?_) rfl (by kernel_rfl) (by kernel_rfl) (by kernel_rfl) (fun _ _ _ h => h) (Or.inl ⟨by rfl, ?_⟩) (by assumption) ?_
  rotate_left 1
  · intro w hSw
    (try dsimp only at hSw)
    go_simp
    try with_reducible rfl
  try simp only [Act.put]
  refine wpAnyH_take (i := 10) (v := ?_) rfl (by kernel_rfl) (by kernel_rfl) (by kernel_rfl) (fun _ _ _ h => h) (Or.inl ⟨by rfl, ?_⟩) (by assumption) ?_
  rotate_left 1
  · intro w hSw
    (try dsimp only at hSw)
    go_simp
    try with_reducible rfl
  try simp only [Act.put]
  refine wpAnyH_take (i := 11) (v := ?_) rfl (by kernel_rfl) (by kernel_rfl) (by kernel_rfl) (fun _ _ _ h => h) (Or.inl ⟨by rfl, ?_⟩) (by assumption) ?_
  rotate_left 1
  · intro w hSw
    (try dsimp only at hSw)
    go_simp
    try with_reducible rfl
  try simp only [Act.put]
  refine wpAnyH_take (i := 13) (v := ?_) rfl (by kernel_rfl) (by kernel_rfl) (by kernel_rfl) (fun _ _ _ h => h) (Or.inl ⟨by rfl, ?_⟩) (by assumption) ?_
  rotate_left 1
  · intro w hSw
    (try dsimp only at hSw)
    go_simp
    try with_reducible rfl
  try simp only [Act.put]
  refine wpAnyH_take (i := 14) (v := ?_) rfl (by kernel_rfl) (by kernel_rfl) (by kernel_rfl) (fun _ _ _ h => h) (Or.inl ⟨by rfl, ?_⟩) (by assumption) ?_
  rotate_left 1
  · intro w hSw
    (try dsimp only at hSw)
    go_simp
    try with_reducible rfl
  try simp only [Act.put]
  refine wpAnyH_ready (rs := [6]) (by kernel_rfl) (by simp) ?_
  refine AllReadyH.cons rfl (fun K hK => ?_) AllReadyH.nil
  go_simp
  go_at_call 33
  refine (HS1.out _ (HB2.out.drew)).mono ?_
  rintro e w3 ⟨⟨A3, c3, rfl, hi3⟩, hb3⟩
  have HI3 := Lib.hid hi3
  have HB3 := Lib.hid (HB2.out.drew.trans (hb3.mono HB2.out.drew.size))
  have HBS3 := Lib.hid hb3
  have HX3 := Lib.hid (Blk.below (Blk.drewN HX.out 1) hb3 (Blk.drewN HX.out 1).lt)
  have HY3 := Lib.hid (Blk.below (Blk.drewN HY.out 1) hb3 (Blk.drewN HY.out 1).lt)
  clear hi3 hb3
  dsimp only
  refine hK.out _ _ ?_ (fun hHeld => ?_)
  · exact six_of HX3.out
  clear hK K
  refine wpAnyH_ready (rs := [9]) (by kernel_rfl) (by simp) ?_
  refine AllReadyH.cons rfl (fun K hK => ?_) AllReadyH.nil
  go_simp
  go_at_call 33
  refine (HS2.out _ HB3.out).mono ?_
  rintro e w4 ⟨⟨A4, c4, rfl, hi4⟩, hb4⟩
  have HI4 := Lib.hid hi4
  have HB4 := Lib.hid (HB3.out.trans (hb4.mono HB3.out.size))
  have HBS4 := Lib.hid hb4
  have HX4 := Lib.hid (Blk.below HX3.out hb4 HX3.out.lt)
  have HY4 := Lib.hid (Blk.below HY3.out hb4 HY3.out.lt)
  clear hi4 hb4
  dsimp only
  refine hK.out _ _ ?_ (fun hHeld => ?_)
  · exact six_of HX4.out
  clear hK K
  refine wpAnyH_ready (rs := [12]) (by kernel_rfl) (by simp) ?_
  refine AllReadyH.cons rfl (fun K hK => ?_) AllReadyH.nil
  go_simp
  go_at_call 33
  refine (HS3.out _ HB4.out).mono ?_
  rintro e w5 ⟨⟨A5, c5, rfl, hi5⟩, hb5⟩
  have HI5 := Lib.hid hi5
  have HB5 := Lib.hid (HB4.out.trans (hb5.mono HB4.out.size))
  have HBS5 := Lib.hid hb5
  have HX5 := Lib.hid (Blk.below HX4.out hb5 HX4.out.lt)
  have hy5 := Blk.below HY4.out hb5 HY4.out.lt
  have HY5 := Lib.hid hy5
  have t0 := hy5.frozen 0
  have t1 := hy5.frozen 1
  have t2 := hy5.frozen 2
  have t3 := hy5.frozen 3
  have t4 := hy5.frozen 4
  have t5 := hy5.frozen 5
  have v0 : w5.cell? ⟨w.heap.size + 1, 0, none⟩ = some (.bool false) := hy5.cell 0
  have v1 : w5.cell? ⟨w.heap.size + 1, 1, none⟩ = some (.bool false) := hy5.cell 1
  have v2 : w5.cell? ⟨w.heap.size + 1, 2, none⟩ = some (.slice none 0 0) := hy5.cell 2
  have v3 : w5.cell? ⟨w.heap.size + 1, 3, none⟩ = some (.slice none 0 0) := hy5.cell 3
  have v4 : w5.cell? ⟨w.heap.size + 1, 4, none⟩ = some (.slice none 0 0) := hy5.cell 4
  have v5 : w5.cell? ⟨w.heap.size + 1, 5, none⟩ = some (.int .i64 0) := hy5.cell 5
  have hl5 := hy5.lt
  have HX6 := Lib.hid (blk_set_ne (g := w.heap.size + 1) (i := 5) (u := .int .i64 s.cursor) (blk_set_ne (g := w.heap.size + 1) (i := 4) (u := .slice A5 a3 c5) (blk_set_ne (g := w.heap.size + 1) (i := 3) (u := .slice A4 a2 c4) (blk_set_ne (g := w.heap.size + 1) (i := 2) (u := .slice A3 a1 c3) (blk_set_ne (g := w.heap.size + 1) (i := 1) (u := .bool s.fin) (blk_set_ne (g := w.heap.size + 1) (i := 0) (u := .bool s.start) HX5.out (by omega)) (by omega)) (by omega)) (by omega)) (by omega)) (by omega))
  clear hy5 hi5 hb5
  dsimp only
  refine hK.out _ _ ?_ (fun hHeld => ?_)
  · exact six_of HX5.out
  clear hK K
  refine wpAnyH_take (i := 15) (v := ?_) rfl (by kernel_rfl) (by kernel_rfl) (by kernel_rfl) (fun _ _ _ h => h) (Or.inl ⟨by rfl, ?_⟩) (by assumption) ?_
  rotate_left 1
  · intro w hSw
    (try dsimp only at hSw)
    go_simp
    try with_reducible rfl
  try simp only [Act.put]
  refine wpAnyH_ready (rs := [16]) (by kernel_rfl) (by simp) ?_
  refine AllReadyH.cons rfl (fun K hK => ?_) AllReadyH.nil
  go_simp
  refine hK.out _ _ ?_ (fun hHeld => ?_)
  · exact six_of HX6.out
  clear hK K
  refine wpAnyH_done (by kernel_rfl) ?_ _
  have hy6 := (((((HY5.out.put 0 (.bool s.start)).put 1 (.bool s.fin)).put 2 (.slice A3 a1 c3)).put 3 (.slice A4 a2 c4)).put 4 (.slice A5 a3 c5)).put 5 (.int .i64 s.cursor)
  have hb6 := (((((HB5.out.setCell (p := ⟨w.heap.size + 1, 0, none⟩) (Nat.le_succ _) (.bool s.start)).setCell (p := ⟨w.heap.size + 1, 1, none⟩) (Nat.le_succ _) (.bool s.fin)).setCell (p := ⟨w.heap.size + 1, 2, none⟩) (Nat.le_succ _) (.slice A3 a1 c3)).setCell (p := ⟨w.heap.size + 1, 3, none⟩) (Nat.le_succ _) (.slice A4 a2 c4)).setCell (p := ⟨w.heap.size + 1, 4, none⟩) (Nat.le_succ _) (.slice A5 a3 c5)).setCell (p := ⟨w.heap.size + 1, 5, none⟩) (Nat.le_succ _) (.int .i64 s.cursor)
  have hd : W2.drew.heap.size = w.heap.size + 2 := hz2
  have hk3 : Keeps w3 (Fr B W2.drew.heap.size) w4 (Fr B (w.heap.size + 2)) := Keeps.below HBS4.out (fun b hb _ => hb.imp id (fun h => by omega))
  have hk4 : Keeps w4 (Fr B (w.heap.size + 2)) w5 (Fr B (w.heap.size + 2)) := Keeps.below HBS5.out (fun b hb _ => hb)
  have hi3 := (HI3.out.keep hk3).keep hk4
  have hz3 := HB3.out.size
  have hz4 := HB4.out.size
  have hbz3 := HBS3.out.size
  have hbz4 := HBS4.out.size
  have hi4 := (HI4.out.keep (Keeps.refl (X' := Fr B (w.heap.size + 2)) (fun b hb => hb.imp id (fun h => by omega)))).keep hk4
  have hi5 := HI5.out.keep (Keeps.refl (X' := Fr B (w.heap.size + 2)) (fun b hb => hb.imp id (fun h => by omega)))
  have hk5 : Keeps w5 (Fr B (w.heap.size + 2)) ((((((w5.setCell ⟨w.heap.size + 1, 0, none⟩ (.bool s.start)).setCell ⟨w.heap.size + 1, 1, none⟩ (.bool s.fin)).setCell ⟨w.heap.size + 1, 2, none⟩ (.slice A3 a1 c3)).setCell ⟨w.heap.size + 1, 3, none⟩ (.slice A4 a2 c4)).setCell ⟨w.heap.size + 1, 4, none⟩ (.slice A5 a3 c5)).setCell ⟨w.heap.size + 1, 5, none⟩ (.int .i64 s.cursor)) (Fr B (w.heap.size + 2)) :=
    Keeps.trans (Keeps.trans (Keeps.trans (Keeps.trans (Keeps.trans (fr_set1 hB) (fr_set1 hB)) (fr_set1 hB)) (fr_set1 hB)) (fr_set1 hB)) (fr_set1 hB)
  have hj3 := (hi3.keep hk5).keep (Keeps.refl (X' := Fr B w.heap.size) (fun b hb => hb.imp id (fun h => by omega)))
  have hj4 := (hi4.keep hk5).keep (Keeps.refl (X' := Fr B w.heap.size) (fun b hb => hb.imp id (fun h => by omega)))
  have hj5 := (hi5.keep hk5).keep (Keeps.refl (X' := Fr B w.heap.size) (fun b hb => hb.imp id (fun h => by omega)))
  clear HI3 HI4 HI5 HB3 HB4 HB5 HBS3 HBS4 HBS5 HX3 HX4 HX5 HX6 HY3 HY4 HY5 HX HY HB2 hHeld hi3 hi4 hi5 hk3 hk4 hk5 t0 t1 t2 t3 t4 t5 v0 v1 v2 v3 v4 v5 hl5
  generalize ((((((w5.setCell ⟨w.heap.size + 1, 0, none⟩ (.bool s.start)).setCell ⟨w.heap.size + 1, 1, none⟩ (.bool s.fin)).setCell ⟨w.heap.size + 1, 2, none⟩ (.slice A3 a1 c3)).setCell ⟨w.heap.size + 1, 3, none⟩ (.slice A4 a2 c4)).setCell ⟨w.heap.size + 1, 4, none⟩ (.slice A5 a3 c5)).setCell ⟨w.heap.size + 1, 5, none⟩ (.int .i64 s.cursor)) = W6 at *
  have r0 : W6.cell? ⟨w.heap.size + 1, 0, none⟩ = some (.bool s.start) := hy6.cell 0
  have r1 : W6.cell? ⟨w.heap.size + 1, 1, none⟩ = some (.bool s.fin) := hy6.cell 1
  have r2 : W6.cell? ⟨w.heap.size + 1, 2, none⟩ = some (.slice A3 a1 c3) := hy6.cell 2
  have r3 : W6.cell? ⟨w.heap.size + 1, 3, none⟩ = some (.slice A4 a2 c4) := hy6.cell 3
  have r4 : W6.cell? ⟨w.heap.size + 1, 4, none⟩ = some (.slice A5 a3 c5) := hy6.cell 4
  have r5 : W6.cell? ⟨w.heap.size + 1, 5, none⟩ = some (.int .i64 s.cursor) := hy6.cell 5
  have HSX := Lib.hid (show SideX W6 (Fr B w.heap.size) (bareS s) [.bool s.start, .bool s.fin, .slice A3 a1 c3, .slice A4 a2 c4, .slice A5 a3 c5, .int .i64 s.cursor] from ⟨A3, a1, c3, A4, a2, c4, A5, a3, c5, rfl, hj3, hj4, hj5, by unfold maxLen; omega, by unfold maxLen; omega, by unfold maxLen; omega, HC.out⟩)
  have HB6 := Lib.hid hb6
  clear hj3 hj4 hj5 hb6 hy6
  go_wp2_with fail
  refine bodyPost_ret (v := .agg #[.bool s.start, .bool s.fin, .slice A3 a1 c3, .slice A4 a2 c4, .slice A5 a3 c5, .int .i64 s.cursor]) (by simp [results, Try.results21, go_sem, r0, r1, r2, r3, r4, r5]) rfl ⟨⟨_, rfl, HSX.out⟩, HB6.out⟩

end Go.Proofs.Ythcjiainpaebfaa

/- scriptref5.Bare: a file with what kinds have alone. -/
namespace Go.Proofs.Ythcjiainpaebfaa
open Go.RowKit Go.Maps

section
variable {w : World} {X : Nat → Prop} {p : PartD} {A : Option Addr} {n c : Nat}
/-- A part without sides. -/
theorem part_flat {k d : Int} {nm : ByteArray} {s : Spans} (hs : RdX w X 2 A n (spanCells s)) (hn : n ≤ maxLen) (hk : i64R k) (hd : i64R d) (hm : nm.size ≤ maxLen) :
    PartX w X ⟨k, nm, s, d, zeroS, zeroS⟩ [.int .i64 k, .string nm, .slice A n c, .int .i64 d, .bool false, .bool false, .slice none 0 0, .slice none 0 0, .slice none 0 0, .int .i64 0, .bool false, .bool false, .slice none 0 0, .slice none 0 0, .slice none 0 0, .int .i64 0] :=
  ⟨A, n, c, [.bool false, .bool false, .slice none 0 0, .slice none 0 0, .slice none 0 0, .int .i64 0], [.bool false, .bool false, .slice none 0 0, .slice none 0 0, .slice none 0 0, .int .i64 0], rfl, hs, hn, zero_side, zero_side, hk, hd, hm⟩
theorem zero64 : i64R 0 := by unfold i64R; omega
theorem bareD_1 (h : p.kind = 1) : bareD p = ⟨p.kind, p.name, p.set, 0, zeroS, zeroS⟩ := by unfold bareD; simp [h]
theorem bareD_3 (h : p.kind = 3) : bareD p = ⟨p.kind, ⟨#[]⟩, p.set, 0, zeroS, zeroS⟩ := by unfold bareD; simp [h]
theorem bareD_4 (h : p.kind = 4) : bareD p = ⟨p.kind, p.name, [], 0, zeroS, zeroS⟩ := by unfold bareD; simp [h]
theorem bareD_no (h : p.kind ≠ 2) : bareD p = ⟨p.kind, (bareD p).name, (bareD p).set, 0, zeroS, zeroS⟩ := by unfold bareD; simp [h]
theorem bareD_2 (h : p.kind = 2) : bareD p = ⟨p.kind, ⟨#[]⟩, [], p.dir, bareS p.left, bareS p.right⟩ := by unfold bareD; simp [h]
end
def BaRel (w : World) (B : Nat) (l : List PartD) (n : Nat) (m i : Value) (wr : World) : Prop :=
  ∃ (k : Nat), k ≤ n ∧ i = .int .i64 k ∧ OwnL (PartX wr (RowX B w.heap.size m)) 40 16 wr w.heap.size m ((l.take k).map bareD) ∧ Below w.heap.size w wr
/-- The part at hand and the one that is made of it. -/
def BdAt (wr : World) (P Q : Array Value) (wx : World) : Prop := Blk wx wr.heap.size 40 P ∧ Blk wx (wr.heap.size + 1) 40 Q ∧ Below wr.heap.size wr wx
theorem BdAt.put {wr wx : World} {P Q : Array Value} (h : BdAt wr P Q wx) (i : Nat) (u : Value) : BdAt wr P (Q.setIfInBounds i u) (wx.setCell ⟨wr.heap.size + 1, i, none⟩ u) :=
  ⟨blk_set_ne h.1 (by omega), h.2.1.put i u, h.2.2.setCell (p := ⟨wr.heap.size + 1, i, none⟩) (Nat.le_succ _) u⟩
theorem BdAt.below {wr wx w2 : World} {P Q : Array Value} (h : BdAt wr P Q wx) (hb : Below wx.heap.size wx w2) : BdAt wr P Q w2 :=
  ⟨Blk.below h.1 hb h.1.lt, Blk.below h.2.1 hb h.2.1.lt, h.2.2.trans (hb.mono h.2.2.size)⟩
theorem BdAt.drew {wr wx : World} {P Q : Array Value} (h : BdAt wr P Q wx) : BdAt wr P Q wx.drew := h.below (Below.refl _ _).drew
theorem bd_put13 {wr wx : World} {B : Nat} {P : Array Value} {a0 a1 a2 b3 b4 b5 b6 b7 b8 b9 b10 b11 b12 b13 b14 b15 : Value} (h : BdAt wr P #[a0, a1, a2, b3, b4, b5, b6, b7, b8, b9, b10, b11, b12, b13, b14, b15] wx) (hB : B ≤ wr.heap.size) (v3 v4 v5 v6 v7 v8 v9 v10 v11 v12 v13 v14 v15 : Value) :
    BdAt wr P #[a0, a1, a2, v3, v4, v5, v6, v7, v8, v9, v10, v11, v12, v13, v14, v15] (((((((((((((wx.setCell ⟨wr.heap.size + 1, 3, none⟩ v3).setCell ⟨wr.heap.size + 1, 4, none⟩ v4).setCell ⟨wr.heap.size + 1, 5, none⟩ v5).setCell ⟨wr.heap.size + 1, 6, none⟩ v6).setCell ⟨wr.heap.size + 1, 7, none⟩ v7).setCell ⟨wr.heap.size + 1, 8, none⟩ v8).setCell ⟨wr.heap.size + 1, 9, none⟩ v9).setCell ⟨wr.heap.size + 1, 10, none⟩ v10).setCell ⟨wr.heap.size + 1, 11, none⟩ v11).setCell ⟨wr.heap.size + 1, 12, none⟩ v12).setCell ⟨wr.heap.size + 1, 13, none⟩ v13).setCell ⟨wr.heap.size + 1, 14, none⟩ v14).setCell ⟨wr.heap.size + 1, 15, none⟩ v15) ∧ Keeps wx (Fr B (wr.heap.size + 2)) (((((((((((((wx.setCell ⟨wr.heap.size + 1, 3, none⟩ v3).setCell ⟨wr.heap.size + 1, 4, none⟩ v4).setCell ⟨wr.heap.size + 1, 5, none⟩ v5).setCell ⟨wr.heap.size + 1, 6, none⟩ v6).setCell ⟨wr.heap.size + 1, 7, none⟩ v7).setCell ⟨wr.heap.size + 1, 8, none⟩ v8).setCell ⟨wr.heap.size + 1, 9, none⟩ v9).setCell ⟨wr.heap.size + 1, 10, none⟩ v10).setCell ⟨wr.heap.size + 1, 11, none⟩ v11).setCell ⟨wr.heap.size + 1, 12, none⟩ v12).setCell ⟨wr.heap.size + 1, 13, none⟩ v13).setCell ⟨wr.heap.size + 1, 14, none⟩ v14).setCell ⟨wr.heap.size + 1, 15, none⟩ v15) (Fr B (wr.heap.size + 2)) := by
  have k3 : Keeps wx (Fr B (wr.heap.size + 2)) (wx.setCell ⟨wr.heap.size + 1, 3, none⟩ v3) (Fr B (wr.heap.size + 2)) := fr_set1 hB
  have k4 : Keeps wx (Fr B (wr.heap.size + 2)) ((wx.setCell ⟨wr.heap.size + 1, 3, none⟩ v3).setCell ⟨wr.heap.size + 1, 4, none⟩ v4) (Fr B (wr.heap.size + 2)) := k3.trans (fr_set1 hB)
  have k5 : Keeps wx (Fr B (wr.heap.size + 2)) (((wx.setCell ⟨wr.heap.size + 1, 3, none⟩ v3).setCell ⟨wr.heap.size + 1, 4, none⟩ v4).setCell ⟨wr.heap.size + 1, 5, none⟩ v5) (Fr B (wr.heap.size + 2)) := k4.trans (fr_set1 hB)
  have k6 : Keeps wx (Fr B (wr.heap.size + 2)) ((((wx.setCell ⟨wr.heap.size + 1, 3, none⟩ v3).setCell ⟨wr.heap.size + 1, 4, none⟩ v4).setCell ⟨wr.heap.size + 1, 5, none⟩ v5).setCell ⟨wr.heap.size + 1, 6, none⟩ v6) (Fr B (wr.heap.size + 2)) := k5.trans (fr_set1 hB)
  have k7 : Keeps wx (Fr B (wr.heap.size + 2)) (((((wx.setCell ⟨wr.heap.size + 1, 3, none⟩ v3).setCell ⟨wr.heap.size + 1, 4, none⟩ v4).setCell ⟨wr.heap.size + 1, 5, none⟩ v5).setCell ⟨wr.heap.size + 1, 6, none⟩ v6).setCell ⟨wr.heap.size + 1, 7, none⟩ v7) (Fr B (wr.heap.size + 2)) := k6.trans (fr_set1 hB)
  have k8 : Keeps wx (Fr B (wr.heap.size + 2)) ((((((wx.setCell ⟨wr.heap.size + 1, 3, none⟩ v3).setCell ⟨wr.heap.size + 1, 4, none⟩ v4).setCell ⟨wr.heap.size + 1, 5, none⟩ v5).setCell ⟨wr.heap.size + 1, 6, none⟩ v6).setCell ⟨wr.heap.size + 1, 7, none⟩ v7).setCell ⟨wr.heap.size + 1, 8, none⟩ v8) (Fr B (wr.heap.size + 2)) := k7.trans (fr_set1 hB)
  have k9 : Keeps wx (Fr B (wr.heap.size + 2)) (((((((wx.setCell ⟨wr.heap.size + 1, 3, none⟩ v3).setCell ⟨wr.heap.size + 1, 4, none⟩ v4).setCell ⟨wr.heap.size + 1, 5, none⟩ v5).setCell ⟨wr.heap.size + 1, 6, none⟩ v6).setCell ⟨wr.heap.size + 1, 7, none⟩ v7).setCell ⟨wr.heap.size + 1, 8, none⟩ v8).setCell ⟨wr.heap.size + 1, 9, none⟩ v9) (Fr B (wr.heap.size + 2)) := k8.trans (fr_set1 hB)
  have k10 : Keeps wx (Fr B (wr.heap.size + 2)) ((((((((wx.setCell ⟨wr.heap.size + 1, 3, none⟩ v3).setCell ⟨wr.heap.size + 1, 4, none⟩ v4).setCell ⟨wr.heap.size + 1, 5, none⟩ v5).setCell ⟨wr.heap.size + 1, 6, none⟩ v6).setCell ⟨wr.heap.size + 1, 7, none⟩ v7).setCell ⟨wr.heap.size + 1, 8, none⟩ v8).setCell ⟨wr.heap.size + 1, 9, none⟩ v9).setCell ⟨wr.heap.size + 1, 10, none⟩ v10) (Fr B (wr.heap.size + 2)) := k9.trans (fr_set1 hB)
  have k11 : Keeps wx (Fr B (wr.heap.size + 2)) (((((((((wx.setCell ⟨wr.heap.size + 1, 3, none⟩ v3).setCell ⟨wr.heap.size + 1, 4, none⟩ v4).setCell ⟨wr.heap.size + 1, 5, none⟩ v5).setCell ⟨wr.heap.size + 1, 6, none⟩ v6).setCell ⟨wr.heap.size + 1, 7, none⟩ v7).setCell ⟨wr.heap.size + 1, 8, none⟩ v8).setCell ⟨wr.heap.size + 1, 9, none⟩ v9).setCell ⟨wr.heap.size + 1, 10, none⟩ v10).setCell ⟨wr.heap.size + 1, 11, none⟩ v11) (Fr B (wr.heap.size + 2)) := k10.trans (fr_set1 hB)
  have k12 : Keeps wx (Fr B (wr.heap.size + 2)) ((((((((((wx.setCell ⟨wr.heap.size + 1, 3, none⟩ v3).setCell ⟨wr.heap.size + 1, 4, none⟩ v4).setCell ⟨wr.heap.size + 1, 5, none⟩ v5).setCell ⟨wr.heap.size + 1, 6, none⟩ v6).setCell ⟨wr.heap.size + 1, 7, none⟩ v7).setCell ⟨wr.heap.size + 1, 8, none⟩ v8).setCell ⟨wr.heap.size + 1, 9, none⟩ v9).setCell ⟨wr.heap.size + 1, 10, none⟩ v10).setCell ⟨wr.heap.size + 1, 11, none⟩ v11).setCell ⟨wr.heap.size + 1, 12, none⟩ v12) (Fr B (wr.heap.size + 2)) := k11.trans (fr_set1 hB)
  have k13 : Keeps wx (Fr B (wr.heap.size + 2)) (((((((((((wx.setCell ⟨wr.heap.size + 1, 3, none⟩ v3).setCell ⟨wr.heap.size + 1, 4, none⟩ v4).setCell ⟨wr.heap.size + 1, 5, none⟩ v5).setCell ⟨wr.heap.size + 1, 6, none⟩ v6).setCell ⟨wr.heap.size + 1, 7, none⟩ v7).setCell ⟨wr.heap.size + 1, 8, none⟩ v8).setCell ⟨wr.heap.size + 1, 9, none⟩ v9).setCell ⟨wr.heap.size + 1, 10, none⟩ v10).setCell ⟨wr.heap.size + 1, 11, none⟩ v11).setCell ⟨wr.heap.size + 1, 12, none⟩ v12).setCell ⟨wr.heap.size + 1, 13, none⟩ v13) (Fr B (wr.heap.size + 2)) := k12.trans (fr_set1 hB)
  have k14 : Keeps wx (Fr B (wr.heap.size + 2)) ((((((((((((wx.setCell ⟨wr.heap.size + 1, 3, none⟩ v3).setCell ⟨wr.heap.size + 1, 4, none⟩ v4).setCell ⟨wr.heap.size + 1, 5, none⟩ v5).setCell ⟨wr.heap.size + 1, 6, none⟩ v6).setCell ⟨wr.heap.size + 1, 7, none⟩ v7).setCell ⟨wr.heap.size + 1, 8, none⟩ v8).setCell ⟨wr.heap.size + 1, 9, none⟩ v9).setCell ⟨wr.heap.size + 1, 10, none⟩ v10).setCell ⟨wr.heap.size + 1, 11, none⟩ v11).setCell ⟨wr.heap.size + 1, 12, none⟩ v12).setCell ⟨wr.heap.size + 1, 13, none⟩ v13).setCell ⟨wr.heap.size + 1, 14, none⟩ v14) (Fr B (wr.heap.size + 2)) := k13.trans (fr_set1 hB)
  have k15 : Keeps wx (Fr B (wr.heap.size + 2)) (((((((((((((wx.setCell ⟨wr.heap.size + 1, 3, none⟩ v3).setCell ⟨wr.heap.size + 1, 4, none⟩ v4).setCell ⟨wr.heap.size + 1, 5, none⟩ v5).setCell ⟨wr.heap.size + 1, 6, none⟩ v6).setCell ⟨wr.heap.size + 1, 7, none⟩ v7).setCell ⟨wr.heap.size + 1, 8, none⟩ v8).setCell ⟨wr.heap.size + 1, 9, none⟩ v9).setCell ⟨wr.heap.size + 1, 10, none⟩ v10).setCell ⟨wr.heap.size + 1, 11, none⟩ v11).setCell ⟨wr.heap.size + 1, 12, none⟩ v12).setCell ⟨wr.heap.size + 1, 13, none⟩ v13).setCell ⟨wr.heap.size + 1, 14, none⟩ v14).setCell ⟨wr.heap.size + 1, 15, none⟩ v15) (Fr B (wr.heap.size + 2)) := k14.trans (fr_set1 hB)
  have s3 : BdAt wr P #[a0, a1, a2, v3, b4, b5, b6, b7, b8, b9, b10, b11, b12, b13, b14, b15] (wx.setCell ⟨wr.heap.size + 1, 3, none⟩ v3) := h.put 3 v3
  have s4 : BdAt wr P #[a0, a1, a2, v3, v4, b5, b6, b7, b8, b9, b10, b11, b12, b13, b14, b15] ((wx.setCell ⟨wr.heap.size + 1, 3, none⟩ v3).setCell ⟨wr.heap.size + 1, 4, none⟩ v4) := s3.put 4 v4
  have s5 : BdAt wr P #[a0, a1, a2, v3, v4, v5, b6, b7, b8, b9, b10, b11, b12, b13, b14, b15] (((wx.setCell ⟨wr.heap.size + 1, 3, none⟩ v3).setCell ⟨wr.heap.size + 1, 4, none⟩ v4).setCell ⟨wr.heap.size + 1, 5, none⟩ v5) := s4.put 5 v5
  have s6 : BdAt wr P #[a0, a1, a2, v3, v4, v5, v6, b7, b8, b9, b10, b11, b12, b13, b14, b15] ((((wx.setCell ⟨wr.heap.size + 1, 3, none⟩ v3).setCell ⟨wr.heap.size + 1, 4, none⟩ v4).setCell ⟨wr.heap.size + 1, 5, none⟩ v5).setCell ⟨wr.heap.size + 1, 6, none⟩ v6) := s5.put 6 v6
  have s7 : BdAt wr P #[a0, a1, a2, v3, v4, v5, v6, v7, b8, b9, b10, b11, b12, b13, b14, b15] (((((wx.setCell ⟨wr.heap.size + 1, 3, none⟩ v3).setCell ⟨wr.heap.size + 1, 4, none⟩ v4).setCell ⟨wr.heap.size + 1, 5, none⟩ v5).setCell ⟨wr.heap.size + 1, 6, none⟩ v6).setCell ⟨wr.heap.size + 1, 7, none⟩ v7) := s6.put 7 v7
  have s8 : BdAt wr P #[a0, a1, a2, v3, v4, v5, v6, v7, v8, b9, b10, b11, b12, b13, b14, b15] ((((((wx.setCell ⟨wr.heap.size + 1, 3, none⟩ v3).setCell ⟨wr.heap.size + 1, 4, none⟩ v4).setCell ⟨wr.heap.size + 1, 5, none⟩ v5).setCell ⟨wr.heap.size + 1, 6, none⟩ v6).setCell ⟨wr.heap.size + 1, 7, none⟩ v7).setCell ⟨wr.heap.size + 1, 8, none⟩ v8) := s7.put 8 v8
  have s9 : BdAt wr P #[a0, a1, a2, v3, v4, v5, v6, v7, v8, v9, b10, b11, b12, b13, b14, b15] (((((((wx.setCell ⟨wr.heap.size + 1, 3, none⟩ v3).setCell ⟨wr.heap.size + 1, 4, none⟩ v4).setCell ⟨wr.heap.size + 1, 5, none⟩ v5).setCell ⟨wr.heap.size + 1, 6, none⟩ v6).setCell ⟨wr.heap.size + 1, 7, none⟩ v7).setCell ⟨wr.heap.size + 1, 8, none⟩ v8).setCell ⟨wr.heap.size + 1, 9, none⟩ v9) := s8.put 9 v9
  have s10 : BdAt wr P #[a0, a1, a2, v3, v4, v5, v6, v7, v8, v9, v10, b11, b12, b13, b14, b15] ((((((((wx.setCell ⟨wr.heap.size + 1, 3, none⟩ v3).setCell ⟨wr.heap.size + 1, 4, none⟩ v4).setCell ⟨wr.heap.size + 1, 5, none⟩ v5).setCell ⟨wr.heap.size + 1, 6, none⟩ v6).setCell ⟨wr.heap.size + 1, 7, none⟩ v7).setCell ⟨wr.heap.size + 1, 8, none⟩ v8).setCell ⟨wr.heap.size + 1, 9, none⟩ v9).setCell ⟨wr.heap.size + 1, 10, none⟩ v10) := s9.put 10 v10
  have s11 : BdAt wr P #[a0, a1, a2, v3, v4, v5, v6, v7, v8, v9, v10, v11, b12, b13, b14, b15] (((((((((wx.setCell ⟨wr.heap.size + 1, 3, none⟩ v3).setCell ⟨wr.heap.size + 1, 4, none⟩ v4).setCell ⟨wr.heap.size + 1, 5, none⟩ v5).setCell ⟨wr.heap.size + 1, 6, none⟩ v6).setCell ⟨wr.heap.size + 1, 7, none⟩ v7).setCell ⟨wr.heap.size + 1, 8, none⟩ v8).setCell ⟨wr.heap.size + 1, 9, none⟩ v9).setCell ⟨wr.heap.size + 1, 10, none⟩ v10).setCell ⟨wr.heap.size + 1, 11, none⟩ v11) := s10.put 11 v11
  have s12 : BdAt wr P #[a0, a1, a2, v3, v4, v5, v6, v7, v8, v9, v10, v11, v12, b13, b14, b15] ((((((((((wx.setCell ⟨wr.heap.size + 1, 3, none⟩ v3).setCell ⟨wr.heap.size + 1, 4, none⟩ v4).setCell ⟨wr.heap.size + 1, 5, none⟩ v5).setCell ⟨wr.heap.size + 1, 6, none⟩ v6).setCell ⟨wr.heap.size + 1, 7, none⟩ v7).setCell ⟨wr.heap.size + 1, 8, none⟩ v8).setCell ⟨wr.heap.size + 1, 9, none⟩ v9).setCell ⟨wr.heap.size + 1, 10, none⟩ v10).setCell ⟨wr.heap.size + 1, 11, none⟩ v11).setCell ⟨wr.heap.size + 1, 12, none⟩ v12) := s11.put 12 v12
  have s13 : BdAt wr P #[a0, a1, a2, v3, v4, v5, v6, v7, v8, v9, v10, v11, v12, v13, b14, b15] (((((((((((wx.setCell ⟨wr.heap.size + 1, 3, none⟩ v3).setCell ⟨wr.heap.size + 1, 4, none⟩ v4).setCell ⟨wr.heap.size + 1, 5, none⟩ v5).setCell ⟨wr.heap.size + 1, 6, none⟩ v6).setCell ⟨wr.heap.size + 1, 7, none⟩ v7).setCell ⟨wr.heap.size + 1, 8, none⟩ v8).setCell ⟨wr.heap.size + 1, 9, none⟩ v9).setCell ⟨wr.heap.size + 1, 10, none⟩ v10).setCell ⟨wr.heap.size + 1, 11, none⟩ v11).setCell ⟨wr.heap.size + 1, 12, none⟩ v12).setCell ⟨wr.heap.size + 1, 13, none⟩ v13) := s12.put 13 v13
  have s14 : BdAt wr P #[a0, a1, a2, v3, v4, v5, v6, v7, v8, v9, v10, v11, v12, v13, v14, b15] ((((((((((((wx.setCell ⟨wr.heap.size + 1, 3, none⟩ v3).setCell ⟨wr.heap.size + 1, 4, none⟩ v4).setCell ⟨wr.heap.size + 1, 5, none⟩ v5).setCell ⟨wr.heap.size + 1, 6, none⟩ v6).setCell ⟨wr.heap.size + 1, 7, none⟩ v7).setCell ⟨wr.heap.size + 1, 8, none⟩ v8).setCell ⟨wr.heap.size + 1, 9, none⟩ v9).setCell ⟨wr.heap.size + 1, 10, none⟩ v10).setCell ⟨wr.heap.size + 1, 11, none⟩ v11).setCell ⟨wr.heap.size + 1, 12, none⟩ v12).setCell ⟨wr.heap.size + 1, 13, none⟩ v13).setCell ⟨wr.heap.size + 1, 14, none⟩ v14) := s13.put 14 v14
  have s15 : BdAt wr P #[a0, a1, a2, v3, v4, v5, v6, v7, v8, v9, v10, v11, v12, v13, v14, v15] (((((((((((((wx.setCell ⟨wr.heap.size + 1, 3, none⟩ v3).setCell ⟨wr.heap.size + 1, 4, none⟩ v4).setCell ⟨wr.heap.size + 1, 5, none⟩ v5).setCell ⟨wr.heap.size + 1, 6, none⟩ v6).setCell ⟨wr.heap.size + 1, 7, none⟩ v7).setCell ⟨wr.heap.size + 1, 8, none⟩ v8).setCell ⟨wr.heap.size + 1, 9, none⟩ v9).setCell ⟨wr.heap.size + 1, 10, none⟩ v10).setCell ⟨wr.heap.size + 1, 11, none⟩ v11).setCell ⟨wr.heap.size + 1, 12, none⟩ v12).setCell ⟨wr.heap.size + 1, 13, none⟩ v13).setCell ⟨wr.heap.size + 1, 14, none⟩ v14).setCell ⟨wr.heap.size + 1, 15, none⟩ v15) := s14.put 15 v15
  exact ⟨s15, k15⟩
theorem name_of (p : PartD) : (bareD p).name = if (p.kind == 1 || p.kind == 4) = true then p.name else ⟨#[]⟩ := by
  unfold bareD
  simp
theorem set_of (p : PartD) : (bareD p).set = if (p.kind == 1 || p.kind == 3) = true then p.set else [] := by
  unfold bareD
  simp
theorem cells16 {g : Nat} {t : TypeId} {c0 c1 c2 c3 c4 c5 c6 c7 c8 c9 c10 c11 c12 c13 c14 c15 : Value} {wx : World} (h : Blk wx g t #[c0, c1, c2, c3, c4, c5, c6, c7, c8, c9, c10, c11, c12, c13, c14, c15]) :
    wx.cell? ⟨g, 3, none⟩ = some c3 ∧ wx.cell? ⟨g, 4, none⟩ = some c4 ∧ wx.cell? ⟨g, 5, none⟩ = some c5 ∧ wx.cell? ⟨g, 6, none⟩ = some c6 ∧ wx.cell? ⟨g, 7, none⟩ = some c7 ∧ wx.cell? ⟨g, 8, none⟩ = some c8 ∧ wx.cell? ⟨g, 9, none⟩ = some c9 ∧ wx.cell? ⟨g, 10, none⟩ = some c10 ∧ wx.cell? ⟨g, 11, none⟩ = some c11 ∧ wx.cell? ⟨g, 12, none⟩ = some c12 ∧ wx.cell? ⟨g, 13, none⟩ = some c13 ∧ wx.cell? ⟨g, 14, none⟩ = some c14 ∧ wx.cell? ⟨g, 15, none⟩ = some c15 :=
  ⟨h.cell 3, h.cell 4, h.cell 5, h.cell 6, h.cell 7, h.cell 8, h.cell 9, h.cell 10, h.cell 11, h.cell 12, h.cell 13, h.cell 14, h.cell 15⟩
theorem kind_cases {p : PartD} (h : partP p = 0) : p.kind = 1 ∨ p.kind = 3 ∨ p.kind = 4 ∨ p.kind = 2 := by
  rcases part_kinds h with ⟨h, _⟩ | ⟨h, _⟩ | ⟨h, _⟩ | ⟨h, _⟩
  · exact .inl h
  · exact .inr (.inl h)
  · exact .inr (.inr (.inl h))
  · exact .inr (.inr (.inr h))

set_option maxRecDepth 100000 in
set_option maxHeartbeats 12800000 in
theorem ref_bare (B : Nat) (A : Option Addr) (n c : Nat) (l : List PartD) (w : World) (hB : B ≤ w.heap.size) (hl : PartsX w (· < B) A n l) (h0 : (fileP l).1 = 0) :
    Calls Try.prog 13 #[.slice A n c] w fun e w' => (∃ A' c', e = .returned (.slice A' n c') ∧ PartsX w' (Fr B w.heap.size) A' n (l.map bareD)) ∧ Below w.heap.size w w' := by
  obtain ⟨i0, hi, hz0, hz1, hz2⟩ := info_parts infoPartZ
  have HLEN := Lib.hid hl.len
  have HL := Lib.hid hl
  have HK := Lib.hid (file_zero.1 h0).2
  have hn200 : n ≤ 200 := by rw [← hl.len]; exact (file_zero.1 h0).1
  clear hl h0
  go_enter Try.func13, Try.ntmps13
  go_wp2_with fail
  go_loopw [3, 9] (BaRel w B l n) (fun _ i _ => n - (intOf i).toNat)
  case atStart => exact ⟨0, Nat.zero_le _, rfl, OwnL.nil _ _, Below.refl _ _⟩
  case round =>
    obtain ⟨k, hk, rfl, hown, hb⟩ := hrel
    by_cases hlt : k < n
    · obtain ⟨p, hp⟩ : ∃ z, l[k]? = some z := ⟨_, List.getElem?_eq_getElem (by rw [HLEN.out]; exact hlt)⟩
      have hpk := kind_cases (HK.out p (List.mem_of_getElem? hp))
      have HP0 := Lib.hid (HK.out p (List.mem_of_getElem? hp))
      obtain ⟨b, off, cs, rfl, hbb, hbl, hpc, _, hfc⟩ := ListX.at HL.out hp
      obtain ⟨A', n', c', ls, rs, rfl, hset, hn', ⟨L1, a1, x1, L2, a2, x2, L3, a3, x3, rfl, l1, l2, l3, la1, la2, la3, cl⟩, ⟨R1, b1, y1, R2, b2, y2, R3, b3, y3, rfl, r1, r2, r3, ra1, ra2, ra3, cr⟩, hkd, hdr, hnm⟩ := hpc
      have d0 : wr.cell? ⟨b, off + k * 16, none⟩ = some (.int .i64 p.kind) := (hb.cell (p := ⟨b, off + k * 16, none⟩) hbl).trans (hfc 0 _ rfl)
      have d1 : wr.cell? ⟨b, off + k * 16 + 1, none⟩ = some (.string p.name) := (hb.cell (p := ⟨b, off + k * 16 + 1, none⟩) hbl).trans (hfc 1 _ rfl)
      have d2 : wr.cell? ⟨b, off + k * 16 + 2, none⟩ = some (.slice A' n' c') := (hb.cell (p := ⟨b, off + k * 16 + 2, none⟩) hbl).trans (hfc 2 _ rfl)
      have d3 : wr.cell? ⟨b, off + k * 16 + 3, none⟩ = some (.int .i64 p.dir) := (hb.cell (p := ⟨b, off + k * 16 + 3, none⟩) hbl).trans (hfc 3 _ rfl)
      have d4 : wr.cell? ⟨b, off + k * 16 + 4, none⟩ = some (.bool p.left.start) := (hb.cell (p := ⟨b, off + k * 16 + 4, none⟩) hbl).trans (hfc 4 _ rfl)
      have d5 : wr.cell? ⟨b, off + k * 16 + 5, none⟩ = some (.bool p.left.fin) := (hb.cell (p := ⟨b, off + k * 16 + 5, none⟩) hbl).trans (hfc 5 _ rfl)
      have d6 : wr.cell? ⟨b, off + k * 16 + 6, none⟩ = some (.slice L1 a1 x1) := (hb.cell (p := ⟨b, off + k * 16 + 6, none⟩) hbl).trans (hfc 6 _ rfl)
      have d7 : wr.cell? ⟨b, off + k * 16 + 7, none⟩ = some (.slice L2 a2 x2) := (hb.cell (p := ⟨b, off + k * 16 + 7, none⟩) hbl).trans (hfc 7 _ rfl)
      have d8 : wr.cell? ⟨b, off + k * 16 + 8, none⟩ = some (.slice L3 a3 x3) := (hb.cell (p := ⟨b, off + k * 16 + 8, none⟩) hbl).trans (hfc 8 _ rfl)
      have d9 : wr.cell? ⟨b, off + k * 16 + 9, none⟩ = some (.int .i64 p.left.cursor) := (hb.cell (p := ⟨b, off + k * 16 + 9, none⟩) hbl).trans (hfc 9 _ rfl)
      have d10 : wr.cell? ⟨b, off + k * 16 + 10, none⟩ = some (.bool p.right.start) := (hb.cell (p := ⟨b, off + k * 16 + 10, none⟩) hbl).trans (hfc 10 _ rfl)
      have d11 : wr.cell? ⟨b, off + k * 16 + 11, none⟩ = some (.bool p.right.fin) := (hb.cell (p := ⟨b, off + k * 16 + 11, none⟩) hbl).trans (hfc 11 _ rfl)
      have d12 : wr.cell? ⟨b, off + k * 16 + 12, none⟩ = some (.slice R1 b1 y1) := (hb.cell (p := ⟨b, off + k * 16 + 12, none⟩) hbl).trans (hfc 12 _ rfl)
      have d13 : wr.cell? ⟨b, off + k * 16 + 13, none⟩ = some (.slice R2 b2 y2) := (hb.cell (p := ⟨b, off + k * 16 + 13, none⟩) hbl).trans (hfc 13 _ rfl)
      have d14 : wr.cell? ⟨b, off + k * 16 + 14, none⟩ = some (.slice R3 b3 y3) := (hb.cell (p := ⟨b, off + k * 16 + 14, none⟩) hbl).trans (hfc 14 _ rfl)
      have d15 : wr.cell? ⟨b, off + k * 16 + 15, none⟩ = some (.int .i64 p.right.cursor) := (hb.cell (p := ⟨b, off + k * 16 + 15, none⟩) hbl).trans (hfc 15 _ rfl)
      have hml : ((l.take k).map bareD).length = k := by rw [List.length_map, List.length_take, HLEN.out]; omega
      have HOWN := Lib.hid hown
      have HB := Lib.hid hb
      have HTK := Lib.hid (show (l.take (k + 1)).map bareD = (l.take k).map bareD ++ [bareD p] by rw [take_snoc hp, List.map_append]; rfl)
      have HPK := Lib.hid hpk
      have HI := Lib.hid (And.intro hset (And.intro hkd (And.intro hdr (And.intro cl cr))))
      have HLS := Lib.hid (And.intro l1 (And.intro l2 (And.intro l3 (And.intro r1 (And.intro r2 r3)))))
      have hx := two_new wr 40 40 #[.int .i64 p.kind, .string p.name, .slice A' n' c', .int .i64 p.dir, .bool p.left.start, .bool p.left.fin, .slice L1 a1 x1, .slice L2 a2 x2, .slice L3 a3 x3, .int .i64 p.left.cursor, .bool p.right.start, .bool p.right.fin, .slice R1 b1 y1, .slice R2 b2 y2, .slice R3 b3 y3, .int .i64 p.right.cursor] #[.int .i64 p.kind, .string ⟨#[]⟩, .slice none 0 0, .int .i64 0, .bool false, .bool false, .slice none 0 0, .slice none 0 0, .slice none 0 0, .int .i64 0, .bool false, .bool false, .slice none 0 0, .slice none 0 0, .slice none 0 0, .int .i64 0]
      have HX := Lib.hid (show BdAt wr #[.int .i64 p.kind, .string p.name, .slice A' n' c', .int .i64 p.dir, .bool p.left.start, .bool p.left.fin, .slice L1 a1 x1, .slice L2 a2 x2, .slice L3 a3 x3, .int .i64 p.left.cursor, .bool p.right.start, .bool p.right.fin, .slice R1 b1 y1, .slice R2 b2 y2, .slice R3 b3 y3, .int .i64 p.right.cursor] #[.int .i64 p.kind, .string ⟨#[]⟩, .slice none 0 0, .int .i64 0, .bool false, .bool false, .slice none 0 0, .slice none 0 0, .slice none 0 0, .int .i64 0, .bool false, .bool false, .slice none 0 0, .slice none 0 0, .slice none 0 0, .int .i64 0] _ from ⟨hx.1, hx.2.1, hx.2.2.1⟩)
      clear hfc hpk hown hb hp hset hkd hdr cl cr l1 l2 l3 r1 r2 r3 la1 la2 la3 ra1 ra2 ra3 hx
      generalize (l.take k).map bareD = M at *
      go_upto_region 6 with fail
      clear d0 d1 d2 d3 d4 d5 d6 d7 d8 d9 d10 d11 d12 d13 d14 d15
      have hx := HX.out
      clear HX
      generalize ((wr.alloc (.cells #[.int .i64 p.kind, .string p.name, .slice A' n' c', .int .i64 p.dir, .bool p.left.start, .bool p.left.fin, .slice L1 a1 x1, .slice L2 a2 x2, .slice L3 a3 x3, .int .i64 p.left.cursor, .bool p.right.start, .bool p.right.fin, .slice R1 b1 y1, .slice R2 b2 y2, .slice R3 b3 y3, .int .i64 p.right.cursor] 40)).alloc (.cells #[.int .i64 p.kind, .string ⟨#[]⟩, .slice none 0 0, .int .i64 0, .bool false, .bool false, .slice none 0 0, .slice none 0 0, .slice none 0 0, .int .i64 0, .bool false, .bool false, .slice none 0 0, .slice none 0 0, .slice none 0 0, .int .i64 0] 40)) = W2 at *
      have e0 : W2.cell? ⟨wr.heap.size, 0, none⟩ = some (.int .i64 p.kind) := hx.1.cell 0
      have HX := Lib.hid hx
      clear hx
      go_cut [23] (fun s23 wx => s23 = .bool (p.kind == 1 || p.kind == 4) ∧ wx = W2)
      case first =>
        rcases HPK.out with h | h | h | h
        · have q1 : (p.kind == 1) = true := by rw [h]; rfl
          have q3 : (p.kind == 3) = false := by rw [h]; rfl
          have q4 : (p.kind == 4) = false := by rw [h]; rfl
          clear h
          go_wp2_with fail
          go_meet
          exact ⟨by simp [q1, q4], rfl⟩
        · have q1 : (p.kind == 1) = false := by rw [h]; rfl
          have q3 : (p.kind == 3) = true := by rw [h]; rfl
          have q4 : (p.kind == 4) = false := by rw [h]; rfl
          clear h
          go_wp2_with fail
          go_meet
          exact ⟨by simp [q1, q4], rfl⟩
        · have q1 : (p.kind == 1) = false := by rw [h]; rfl
          have q3 : (p.kind == 3) = false := by rw [h]; rfl
          have q4 : (p.kind == 4) = true := by rw [h]; rfl
          clear h
          go_wp2_with fail
          go_meet
          exact ⟨by simp [q1, q4], rfl⟩
        · have q1 : (p.kind == 1) = false := by rw [h]; rfl
          have q3 : (p.kind == 3) = false := by rw [h]; rfl
          have q4 : (p.kind == 4) = false := by rw [h]; rfl
          clear h
          go_wp2_with fail
          go_meet
          exact ⟨by simp [q1, q4], rfl⟩
      case rest =>
      obtain ⟨rfl, rfl⟩ := hcut
      have HNM := Lib.hid (name_of p)
      have e1 : wc.cell? ⟨wr.heap.size, 1, none⟩ = some (.string p.name) := HX.out.1.cell 1
      have f1 := HX.out.2.1.frozen 1
      have u1 : wc.cell? ⟨wr.heap.size + 1, 1, none⟩ = some (.string ⟨#[]⟩) := HX.out.2.1.cell 1
      have hl2 := HX.out.2.1.lt
      go_upto_if 23 with fail
      go_cut [] (fun wx => BdAt wr #[.int .i64 p.kind, .string p.name, .slice A' n' c', .int .i64 p.dir, .bool p.left.start, .bool p.left.fin, .slice L1 a1 x1, .slice L2 a2 x2, .slice L3 a3 x3, .int .i64 p.left.cursor, .bool p.right.start, .bool p.right.fin, .slice R1 b1 y1, .slice R2 b2 y2, .slice R3 b3 y3, .int .i64 p.right.cursor] #[.int .i64 p.kind, .string (bareD p).name, .slice none 0 0, .int .i64 0, .bool false, .bool false, .slice none 0 0, .slice none 0 0, .slice none 0 0, .int .i64 0, .bool false, .bool false, .slice none 0 0, .slice none 0 0, .slice none 0 0, .int .i64 0] wx)
      case first =>
        cases hk1 : (p.kind == 1 || p.kind == 4)
        · have HN1 := Lib.hid (show (bareD p).name = ⟨#[]⟩ by rw [HNM.out, hk1]; rfl)
          clear hk1
          go_wp2_with fail
          go_meet
          rw [HN1.out]
          exact HX.out
        · have HN1 := Lib.hid (show (bareD p).name = p.name by rw [HNM.out, hk1]; rfl)
          clear hk1
          go_wp2_with fail
          go_meet
          rw [HN1.out]
          exact HX.out.put 1 (.string p.name)
      case rest =>
      clear HX e0 e1 f1 u1 hl2
      have hx := hcut
      clear hcut
      clear HNM
      generalize hnmq : (bareD p).name = nm at *
      have HNQ := Lib.hid hnmq
      have HX := Lib.hid hx
      have e0 : wc.cell? ⟨wr.heap.size, 0, none⟩ = some (.int .i64 p.kind) := hx.1.cell 0
      clear hx hnmq
      go_upto_region 8 with fail
      go_cut [34] (fun s34 wx => s34 = .bool (p.kind == 1 || p.kind == 3) ∧ wx = wc)
      case first =>
        rcases HPK.out with h | h | h | h
        · have q1 : (p.kind == 1) = true := by rw [h]; rfl
          have q3 : (p.kind == 3) = false := by rw [h]; rfl
          have q4 : (p.kind == 4) = false := by rw [h]; rfl
          clear h
          go_wp2_with fail
          go_meet
          exact ⟨by simp [q1, q3], rfl⟩
        · have q1 : (p.kind == 1) = false := by rw [h]; rfl
          have q3 : (p.kind == 3) = true := by rw [h]; rfl
          have q4 : (p.kind == 4) = false := by rw [h]; rfl
          clear h
          go_wp2_with fail
          go_meet
          exact ⟨by simp [q1, q3], rfl⟩
        · have q1 : (p.kind == 1) = false := by rw [h]; rfl
          have q3 : (p.kind == 3) = false := by rw [h]; rfl
          have q4 : (p.kind == 4) = true := by rw [h]; rfl
          clear h
          go_wp2_with fail
          go_meet
          exact ⟨by simp [q1, q3], rfl⟩
        · have q1 : (p.kind == 1) = false := by rw [h]; rfl
          have q3 : (p.kind == 3) = false := by rw [h]; rfl
          have q4 : (p.kind == 4) = false := by rw [h]; rfl
          clear h
          go_wp2_with fail
          go_meet
          exact ⟨by simp [q1, q3], rfl⟩
      case rest =>
      obtain ⟨rfl, rfl⟩ := hcut
      have HST := Lib.hid (set_of p)
      have e2 : wc.cell? ⟨wr.heap.size, 2, none⟩ = some (.slice A' n' c') := HX.out.1.cell 2
      have f2 := HX.out.2.1.frozen 2
      have u2 : wc.cell? ⟨wr.heap.size + 1, 2, none⟩ = some (.slice none 0 0) := HX.out.2.1.cell 2
      have hl2 := HX.out.2.1.lt
      go_upto_if 34 with fail
      go_cut [] (fun wx => ∃ A9 n9 c9, BdAt wr #[.int .i64 p.kind, .string p.name, .slice A' n' c', .int .i64 p.dir, .bool p.left.start, .bool p.left.fin, .slice L1 a1 x1, .slice L2 a2 x2, .slice L3 a3 x3, .int .i64 p.left.cursor, .bool p.right.start, .bool p.right.fin, .slice R1 b1 y1, .slice R2 b2 y2, .slice R3 b3 y3, .int .i64 p.right.cursor] #[.int .i64 p.kind, .string nm, .slice A9 n9 c9, .int .i64 0, .bool false, .bool false, .slice none 0 0, .slice none 0 0, .slice none 0 0, .int .i64 0, .bool false, .bool false, .slice none 0 0, .slice none 0 0, .slice none 0 0, .int .i64 0] wx ∧ RdX w (· < B) 2 A9 n9 (spanCells (bareD p).set) ∧ n9 ≤ maxLen)
      case first =>
        cases hk1 : (p.kind == 1 || p.kind == 3)
        · have HN1 := Lib.hid (show (bareD p).set = [] by rw [HST.out, hk1]; rfl)
          clear hk1
          go_wp2_with fail
          go_meet
          exact ⟨none, 0, 0, HX.out, by rw [HN1.out]; exact RdX.nil 2, Nat.zero_le _⟩
        · have HN1 := Lib.hid (show (bareD p).set = p.set by rw [HST.out, hk1]; rfl)
          clear hk1
          go_wp2_with fail
          go_meet
          exact ⟨A', n', c', HX.out.put 2 (.slice A' n' c'), by rw [HN1.out]; exact HI.out.1, hn'⟩
      case rest =>
      obtain ⟨A9, n9, c9, hx, hset, hn9⟩ := hcut
      clear HX e0 e2 f2 u2 hl2
      have HX := Lib.hid hx
      have HSET := Lib.hid hset
      have e0 : wc.cell? ⟨wr.heap.size, 0, none⟩ = some (.int .i64 p.kind) := hx.1.cell 0
      clear hx hset
      have hn9' := hn9
      go_upto_if 40 with fail
      go_cut [] (fun wx => ∃ cs : List Value, PartX wx (RowX B w.heap.size u3) (bareD p) cs ∧ BdAt wr #[.int .i64 p.kind, .string p.name, .slice A' n' c', .int .i64 p.dir, .bool p.left.start, .bool p.left.fin, .slice L1 a1 x1, .slice L2 a2 x2, .slice L3 a3 x3, .int .i64 p.left.cursor, .bool p.right.start, .bool p.right.fin, .slice R1 b1 y1, .slice R2 b2 y2, .slice R3 b3 y3, .int .i64 p.right.cursor] cs.toArray wx)
      case first =>
        by_cases hk2 : p.kind = 2
        · have HLK := Lib.hid (part_kinds HP0.out)
          have h2 : p.kind = 2 := hk2
          have hrk : RuleOk p := by
            rcases HLK.out with ⟨h, _⟩ | ⟨h, _⟩ | ⟨h, _⟩ | ⟨_, h⟩
            · omega
            · omega
            · omega
            · exact h
          obtain ⟨_, ⟨ka1, ka2, ka3⟩, ⟨kb1, kb2, kb3⟩⟩ := hrk
          obtain ⟨l1, l2, l3, r1, r2, r3⟩ := HLS.out
          obtain ⟨_, hkd, hdr, cl, cr⟩ := HI.out
          have hwb := fun (w' : World) (hb : Below wr.heap.size wr w') => HB.out.trans (hb.mono HB.out.size)
          have kw := fun (w' : World) (hb : Below wr.heap.size wr w') => (Keeps.below (X := (· < B)) (X' := (· < B)) (hwb w' hb) (fun _ h _ => h))
          have hbw := HB.out.size
          have HSL := Lib.hid (fun (w' : World) (hb : Below wr.heap.size wr w') => bare_side B p.left L1 L2 L3 a1 a2 a3 x1 x2 x3 w' (by have := hb.size; omega) (l1.keep (kw w' hb)) (l2.keep (kw w' hb)) (l3.keep (kw w' hb)) ka1 ka2 ka3 cl)
          have HSR := Lib.hid (fun (w' : World) (hb : Below wr.heap.size wr w') => bare_side B p.right R1 R2 R3 b1 b2 b3 y1 y2 y3 w' (by have := hb.size; omega) (r1.keep (kw w' hb)) (r2.keep (kw w' hb)) (r3.keep (kw w' hb)) kb1 kb2 kb3 cr)
          have HQ := Lib.hid (bareD_2 h2)
          have HDR := Lib.hid (And.intro hkd hdr)
          have hnq : nm = ⟨#[]⟩ := by rw [← HNQ.out, HQ.out]
          have hsq : (bareD p).set = [] := by rw [HQ.out]
          have HNE := Lib.hid hnq
          have HSE := Lib.hid hsq
          have q2 : (p.kind == 2) = true := by rw [h2]; rfl
          clear h2 hk2 ka1 ka2 ka3 kb1 kb2 kb3 l1 l2 l3 r1 r2 r3 hkd hdr cl cr hwb kw hnq hsq
          go_upto_region 11 with fail
          refine wp_region_held_drew (S := (fun w' => w'.cell? ⟨wr.heap.size, 3, none⟩ = some (.int .i64 p.dir) ∧ w'.cell? ⟨wr.heap.size, 4, none⟩ = some (.bool p.left.start) ∧ w'.cell? ⟨wr.heap.size, 5, none⟩ = some (.bool p.left.fin) ∧ w'.cell? ⟨wr.heap.size, 6, none⟩ = some (.slice L1 a1 x1) ∧ w'.cell? ⟨wr.heap.size, 7, none⟩ = some (.slice L2 a2 x2) ∧ w'.cell? ⟨wr.heap.size, 8, none⟩ = some (.slice L3 a3 x3) ∧ w'.cell? ⟨wr.heap.size, 9, none⟩ = some (.int .i64 p.left.cursor) ∧ w'.cell? ⟨wr.heap.size, 10, none⟩ = some (.bool p.right.start) ∧ w'.cell? ⟨wr.heap.size, 11, none⟩ = some (.bool p.right.fin) ∧ w'.cell? ⟨wr.heap.size, 12, none⟩ = some (.slice R1 b1 y1) ∧ w'.cell? ⟨wr.heap.size, 13, none⟩ = some (.slice R2 b2 y2) ∧ w'.cell? ⟨wr.heap.size, 14, none⟩ = some (.slice R3 b3 y3) ∧ w'.cell? ⟨wr.heap.size, 15, none⟩ = some (.int .i64 p.right.cursor))) (by kernel_rfl) (cells16 HX.out.drew.1) (fun hHeld => ?_)
          try simp only [Act.put]
          refine wpAnyH_take (i := 0) (v := ?_) rfl (by kernel_rfl) (by kernel_rfl) (by kernel_rfl) (fun _ _ _ h => h) (Or.inl ⟨by rfl, ?_⟩) (by assumption) ?_
          rotate_left 1
          · intro w hSw
            (try dsimp only at hSw)
            go_simp
            try with_reducible rfl
          try simp only [Act.put]
          refine wpAnyH_take (i := 1) (v := ?_) rfl (by kernel_rfl) (by kernel_rfl) (by kernel_rfl) (fun _ _ _ h => h) (Or.inl ⟨by rfl, ?_⟩) (by assumption) ?_
          rotate_left 1
          · intro w hSw
            (try dsimp only at hSw)
            go_simp
            try with_reducible rfl
          try simp only [Act.put]
          refine wpAnyH_take (i := 2) (v := ?_) rfl (by kernel_rfl) (by kernel_rfl) (by kernel_rfl) (fun _ _ _ h => h) (Or.inl ⟨by rfl, ?_⟩) (by assumption) ?_
          rotate_left 1
          · intro w hSw
            (try dsimp only at hSw)
            go_simp
            try with_reducible rfl
          try simp only [Act.put]
          refine wpAnyH_take (i := 3) (v := ?_) rfl (by kernel_rfl) (by kernel_rfl) (by kernel_rfl) (fun _ _ _ h => h) (Or.inl ⟨by rfl, ?_⟩) (by assumption) ?_
          rotate_left 1
          · intro w hSw
            (try dsimp only at hSw)
            go_simp
            try with_reducible rfl
          try simp only [Act.put]
          refine wpAnyH_take (i := 5) (v := ?_) rfl (by kernel_rfl) (by kernel_rfl) (by kernel_rfl) (fun _ _ _ h => h) (Or.inl ⟨by rfl, ?_⟩) (by assumption) ?_
          rotate_left 1
          · intro w hSw
            (try dsimp only at hSw)
            go_simp
            try with_reducible rfl
          try simp only [Act.put]
          refine wpAnyH_take (i := 6) (v := ?_) rfl (by kernel_rfl) (by kernel_rfl) (by kernel_rfl) (fun _ _ _ h => h) (Or.inl ⟨by rfl, ?_⟩) (by assumption) ?_
          rotate_left 1
          · intro w hSw
            (try dsimp only at hSw)
            go_simp
            try with_reducible rfl
          try simp only [Act.put]
          refine wpAnyH_take (i := 8) (v := ?_) rfl (by kernel_rfl) (by kernel_rfl) (by kernel_rfl) (fun _ _ _ h => h) (Or.inl ⟨by rfl, ?_⟩) (by assumption) ?_
          rotate_left 1
          · intro w hSw
            (try dsimp only at hSw)
            go_simp
            try with_reducible rfl
          try simp only [Act.put]
          refine wpAnyH_ready (rs := [4]) (by kernel_rfl) (by simp) ?_
          refine AllReadyH.cons rfl (fun K hK => ?_) AllReadyH.nil
          go_simp
          go_at_call 21
          refine (HSL.out _ HX.out.2.2.drew).mono ?_
          rintro e w3 ⟨⟨cs, rfl, hs3⟩, hb3⟩
          obtain ⟨E1, g1, z1, E2, g2, z2, E3, g3, z3, rfl, hs3'⟩ := id hs3
          have HX3 := Lib.hid (HX.out.drew.below hb3)
          have HB3 := Lib.hid hb3
          have HS3 := Lib.hid hs3
          clear hs3 hs3' hb3
          dsimp only
          refine hK.out _ _ ?_ (fun hHeld => ?_)
          · exact cells16 HX3.out.1
          clear hK K
          refine wpAnyH_ready (rs := [7]) (by kernel_rfl) (by simp) ?_
          refine AllReadyH.cons rfl (fun K hK => ?_) AllReadyH.nil
          go_simp
          go_at_call 21
          refine (HSR.out _ HX3.out.2.2).mono ?_
          rintro e w4 ⟨⟨cs, rfl, hs4⟩, hb4⟩
          obtain ⟨F1, h1, t1, F2, h2, t2, F3, h3, t3, rfl, hs4'⟩ := id hs4
          have hx4 := HX3.out.below hb4
          have HX4 := Lib.hid hx4
          have HB4 := Lib.hid hb4
          have HS4 := Lib.hid hs4
          have fz3 := hx4.2.1.frozen 3
          have v3 : w4.cell? ⟨wr.heap.size + 1, 3, none⟩ = some (.int .i64 0) := hx4.2.1.cell 3
          have fz4 := hx4.2.1.frozen 4
          have v4 : w4.cell? ⟨wr.heap.size + 1, 4, none⟩ = some (.bool false) := hx4.2.1.cell 4
          have fz5 := hx4.2.1.frozen 5
          have v5 : w4.cell? ⟨wr.heap.size + 1, 5, none⟩ = some (.bool false) := hx4.2.1.cell 5
          have fz6 := hx4.2.1.frozen 6
          have v6 : w4.cell? ⟨wr.heap.size + 1, 6, none⟩ = some (.slice none 0 0) := hx4.2.1.cell 6
          have fz7 := hx4.2.1.frozen 7
          have v7 : w4.cell? ⟨wr.heap.size + 1, 7, none⟩ = some (.slice none 0 0) := hx4.2.1.cell 7
          have fz8 := hx4.2.1.frozen 8
          have v8 : w4.cell? ⟨wr.heap.size + 1, 8, none⟩ = some (.slice none 0 0) := hx4.2.1.cell 8
          have fz9 := hx4.2.1.frozen 9
          have v9 : w4.cell? ⟨wr.heap.size + 1, 9, none⟩ = some (.int .i64 0) := hx4.2.1.cell 9
          have fz10 := hx4.2.1.frozen 10
          have v10 : w4.cell? ⟨wr.heap.size + 1, 10, none⟩ = some (.bool false) := hx4.2.1.cell 10
          have fz11 := hx4.2.1.frozen 11
          have v11 : w4.cell? ⟨wr.heap.size + 1, 11, none⟩ = some (.bool false) := hx4.2.1.cell 11
          have fz12 := hx4.2.1.frozen 12
          have v12 : w4.cell? ⟨wr.heap.size + 1, 12, none⟩ = some (.slice none 0 0) := hx4.2.1.cell 12
          have fz13 := hx4.2.1.frozen 13
          have v13 : w4.cell? ⟨wr.heap.size + 1, 13, none⟩ = some (.slice none 0 0) := hx4.2.1.cell 13
          have fz14 := hx4.2.1.frozen 14
          have v14 : w4.cell? ⟨wr.heap.size + 1, 14, none⟩ = some (.slice none 0 0) := hx4.2.1.cell 14
          have fz15 := hx4.2.1.frozen 15
          have v15 : w4.cell? ⟨wr.heap.size + 1, 15, none⟩ = some (.int .i64 0) := hx4.2.1.cell 15
          have hl4 := hx4.2.1.lt
          clear hs4 hs4' hb4 hx4
          dsimp only
          refine hK.out _ _ ?_ (fun hHeld => ?_)
          · exact cells16 HX4.out.1
          clear hK K
          refine wpAnyH_ready (rs := [9]) (by kernel_rfl) (by simp) ?_
          refine AllReadyH.cons rfl (fun K hK => ?_) AllReadyH.nil
          go_simp
          refine hK.out _ _ ?_ (fun hHeld => ?_)
          · exact cells16 (HX4.out.put 3 (.int .i64 p.dir)).1
          clear hK K
          refine wpAnyH_take (i := 10) (v := ?_) rfl (by kernel_rfl) (by kernel_rfl) (by kernel_rfl) (fun _ _ _ h => h) (Or.inl ⟨by rfl, ?_⟩) (by assumption) ?_
          rotate_left 1
          · intro w hSw
            (try dsimp only at hSw)
            go_simp
            try with_reducible rfl
          try simp only [Act.put]
          refine wpAnyH_ready (rs := [11]) (by kernel_rfl) (by simp) ?_
          refine AllReadyH.cons rfl (fun K hK => ?_) AllReadyH.nil
          go_simp
          refine hK.out _ _ ?_ (fun hHeld => ?_)
          · exact cells16 (((((((HX4.out.put 3 (.int .i64 p.dir)).put 4 (.bool (bareS p.left).start)).put 5 (.bool (bareS p.left).fin)).put 6 (.slice E1 g1 z1)).put 7 (.slice E2 g2 z2)).put 8 (.slice E3 g3 z3)).put 9 (.int .i64 (bareS p.left).cursor)).1
          clear hK K
          refine wpAnyH_take (i := 12) (v := ?_) rfl (by kernel_rfl) (by kernel_rfl) (by kernel_rfl) (fun _ _ _ h => h) (Or.inl ⟨by rfl, ?_⟩) (by assumption) ?_
          rotate_left 1
          · intro w hSw
            (try dsimp only at hSw)
            go_simp
            try with_reducible rfl
          try simp only [Act.put]
          refine wpAnyH_ready (rs := [13]) (by kernel_rfl) (by simp) ?_
          refine AllReadyH.cons rfl (fun K hK => ?_) AllReadyH.nil
          go_simp
          refine hK.out _ _ ?_ (fun hHeld => ?_)
          · exact cells16 (((((((((((((HX4.out.put 3 (.int .i64 p.dir)).put 4 (.bool (bareS p.left).start)).put 5 (.bool (bareS p.left).fin)).put 6 (.slice E1 g1 z1)).put 7 (.slice E2 g2 z2)).put 8 (.slice E3 g3 z3)).put 9 (.int .i64 (bareS p.left).cursor)).put 10 (.bool (bareS p.right).start)).put 11 (.bool (bareS p.right).fin)).put 12 (.slice F1 h1 t1)).put 13 (.slice F2 h2 t2)).put 14 (.slice F3 h3 t3)).put 15 (.int .i64 (bareS p.right).cursor)).1
          clear hK K
          refine wpAnyH_done (by kernel_rfl) ?_ _
          clear fz3 v3 fz4 v4 fz5 v5 fz6 v6 fz7 v7 fz8 v8 fz9 v9 fz10 v10 fz11 v11 fz12 v12 fz13 v13 fz14 v14 fz15 v15 hHeld
          have hbw0 : B ≤ wr.heap.size := Nat.le_trans hB HB.out.size
          obtain ⟨hx5, hkk⟩ := bd_put13 (B := B) HX4.out hbw0 (.int .i64 p.dir) (.bool (bareS p.left).start) (.bool (bareS p.left).fin) (.slice E1 g1 z1) (.slice E2 g2 z2) (.slice E3 g3 z3) (.int .i64 (bareS p.left).cursor) (.bool (bareS p.right).start) (.bool (bareS p.right).fin) (.slice F1 h1 t1) (.slice F2 h2 t2) (.slice F3 h3 t3) (.int .i64 (bareS p.right).cursor)
          generalize (((((((((((((w4.setCell ⟨wr.heap.size + 1, 3, none⟩ (.int .i64 p.dir)).setCell ⟨wr.heap.size + 1, 4, none⟩ (.bool (bareS p.left).start)).setCell ⟨wr.heap.size + 1, 5, none⟩ (.bool (bareS p.left).fin)).setCell ⟨wr.heap.size + 1, 6, none⟩ (.slice E1 g1 z1)).setCell ⟨wr.heap.size + 1, 7, none⟩ (.slice E2 g2 z2)).setCell ⟨wr.heap.size + 1, 8, none⟩ (.slice E3 g3 z3)).setCell ⟨wr.heap.size + 1, 9, none⟩ (.int .i64 (bareS p.left).cursor)).setCell ⟨wr.heap.size + 1, 10, none⟩ (.bool (bareS p.right).start)).setCell ⟨wr.heap.size + 1, 11, none⟩ (.bool (bareS p.right).fin)).setCell ⟨wr.heap.size + 1, 12, none⟩ (.slice F1 h1 t1)).setCell ⟨wr.heap.size + 1, 13, none⟩ (.slice F2 h2 t2)).setCell ⟨wr.heap.size + 1, 14, none⟩ (.slice F3 h3 t3)).setCell ⟨wr.heap.size + 1, 15, none⟩ (.int .i64 (bareS p.right).cursor)) = W5 at *
          have hz3 := HB3.out.size
          have hz4 := HB4.out.size
          have hzx := HX.out.2.1.lt
          have hzd : wc.heap.size ≤ wc.drew.heap.size := Nat.le_refl _
          have hno : ∀ b, wr.heap.size ≤ b → u3.ownBlock ≠ some b := fun b hb e => by
            obtain ⟨_, _, _, _, h4⟩ := HOWN.out
            have := (own_lt h4 e).2
            omega
          have hbw := HB.out.size
          have hz4' := HX4.out.2.2.size
          have hset := HSET.out
          rw [HSE.out] at hset
          have hset4 := hset.keep (Keeps.below (X' := fun b => b < B) (HB.out.trans (HX4.out.2.2.mono HB.out.size)) (fun _ h _ => h))
          have hq3 : Keeps w3 (Fr B wc.drew.heap.size) w4 (Fr B (wr.heap.size + 2)) := Keeps.below HB4.out (fun b hb _ => hb.imp id (fun h => by omega))
          have hsl := HS3.out.keep hq3
          have hsr := HS4.out.keep (Keeps.refl (X' := Fr B (wr.heap.size + 2)) (fun b hb => hb.imp id (fun h => by omega)))
          have hst := hset4.keep (Keeps.refl (X' := Fr B (wr.heap.size + 2)) (fun b hb => .inl hb))
          have hpc : PartX W5 (RowX B w.heap.size u3) (bareD p) [.int .i64 p.kind, .string nm, .slice A9 n9 c9, .int .i64 p.dir, .bool (bareS p.left).start, .bool (bareS p.left).fin, .slice E1 g1 z1, .slice E2 g2 z2, .slice E3 g3 z3, .int .i64 (bareS p.left).cursor, .bool (bareS p.right).start, .bool (bareS p.right).fin, .slice F1 h1 t1, .slice F2 h2 t2, .slice F3 h3 t3, .int .i64 (bareS p.right).cursor] := by
            have hrr : Keeps W5 (Fr B (wr.heap.size + 2)) W5 (RowX B w.heap.size u3) := Keeps.refl (fun b hb => hb.imp id (fun h => ⟨by omega, hno b (by omega)⟩))
            rw [HQ.out]
            rw [HNE.out]
            exact ⟨A9, n9, c9, [.bool (bareS p.left).start, .bool (bareS p.left).fin, .slice E1 g1 z1, .slice E2 g2 z2, .slice E3 g3 z3, .int .i64 (bareS p.left).cursor], [.bool (bareS p.right).start, .bool (bareS p.right).fin, .slice F1 h1 t1, .slice F2 h2 t2, .slice F3 h3 t3, .int .i64 (bareS p.right).cursor], rfl, (hst.keep hkk).keep hrr, hn9, (hsl.keep hkk).keep hrr, (hsr.keep hkk).keep hrr, HDR.out.1, HDR.out.2, Nat.zero_le _⟩
          have HPC := Lib.hid hpc
          have HX5 := Lib.hid hx5
          clear hx5 hpc hkk hst hsr hsl hq3 hset4 hset
          go_wp2_with fail
          go_meet
          exact ⟨_, HPC.out, HX5.out⟩
        · have q2 : (p.kind == 2) = false := by simpa using hk2
          have hkb : Keeps w (· < B) wc (RowX B w.heap.size u3) := Keeps.below (HB.out.trans (HX.out.2.2.mono HB.out.size)) (fun _ h _ => .inl h)
          have hfl : bareD p = ⟨p.kind, nm, (bareD p).set, 0, zeroS, zeroS⟩ := by rw [← HNQ.out]; exact bareD_no hk2
          have hnq : nm.size ≤ maxLen := by
            rw [← HNQ.out, name_of]
            cases (p.kind == 1 || p.kind == 4)
            · exact Nat.zero_le _
            · exact hnm
          have HPC := Lib.hid (show PartX wc (RowX B w.heap.size u3) (bareD p) [.int .i64 p.kind, .string nm, .slice A9 n9 c9, .int .i64 0, .bool false, .bool false, .slice none 0 0, .slice none 0 0, .slice none 0 0, .int .i64 0, .bool false, .bool false, .slice none 0 0, .slice none 0 0, .slice none 0 0, .int .i64 0] by rw [hfl]; exact part_flat (HSET.out.keep hkb) hn9 HI.out.2.1 zero64 hnq)
          clear hk2 hkb hfl hnq
          go_wp2_with fail
          go_meet
          exact ⟨_, HPC.out, HX.out⟩
      case rest =>
      obtain ⟨cs, hpc, hx⟩ := hcut
      have hbx := hx.2.1
      have hwx := hx.2.2
      clear HX HSET e0 HNQ hx
      generalize bareD p = q at *
      have hone := hpc.one
      obtain ⟨A8, n8, c8, M1, e1', z1, M2, e2', z2, M3, e3', z3, N1, h1', t1, N2, h2', t2, N3, h3', t3, rfl⟩ := hpc.form
      have g0 : wc.cell? ⟨wr.heap.size + 1, 0, none⟩ = some (.int .i64 q.kind) := hbx.cell 0
      have g1 : wc.cell? ⟨wr.heap.size + 1, 1, none⟩ = some (.string q.name) := hbx.cell 1
      have g2 : wc.cell? ⟨wr.heap.size + 1, 2, none⟩ = some (.slice A8 n8 c8) := hbx.cell 2
      have g3 : wc.cell? ⟨wr.heap.size + 1, 3, none⟩ = some (.int .i64 q.dir) := hbx.cell 3
      have g4 : wc.cell? ⟨wr.heap.size + 1, 4, none⟩ = some (.bool q.left.start) := hbx.cell 4
      have g5 : wc.cell? ⟨wr.heap.size + 1, 5, none⟩ = some (.bool q.left.fin) := hbx.cell 5
      have g6 : wc.cell? ⟨wr.heap.size + 1, 6, none⟩ = some (.slice M1 e1' z1) := hbx.cell 6
      have g7 : wc.cell? ⟨wr.heap.size + 1, 7, none⟩ = some (.slice M2 e2' z2) := hbx.cell 7
      have g8 : wc.cell? ⟨wr.heap.size + 1, 8, none⟩ = some (.slice M3 e3' z3) := hbx.cell 8
      have g9 : wc.cell? ⟨wr.heap.size + 1, 9, none⟩ = some (.int .i64 q.left.cursor) := hbx.cell 9
      have g10 : wc.cell? ⟨wr.heap.size + 1, 10, none⟩ = some (.bool q.right.start) := hbx.cell 10
      have g11 : wc.cell? ⟨wr.heap.size + 1, 11, none⟩ = some (.bool q.right.fin) := hbx.cell 11
      have g12 : wc.cell? ⟨wr.heap.size + 1, 12, none⟩ = some (.slice N1 h1' t1) := hbx.cell 12
      have g13 : wc.cell? ⟨wr.heap.size + 1, 13, none⟩ = some (.slice N2 h2' t2) := hbx.cell 13
      have g14 : wc.cell? ⟨wr.heap.size + 1, 14, none⟩ = some (.slice N3 h3' t3) := hbx.cell 14
      have g15 : wc.cell? ⟨wr.heap.size + 1, 15, none⟩ = some (.int .i64 q.right.cursor) := hbx.cell 15
      have hk3 : Keeps wr (RowX B w.heap.size u3) wc (RowX B w.heap.size u3) := Keeps.below hwx (fun _ h _ => h)
      obtain ⟨css, y1, y2, y3, y4⟩ := HOWN.out.kept (w' := wc) (R' := PartX wc (RowX B w.heap.size u3)) (fun _ _ h => own_below h hwx) (fun _ _ => PartX.keep hk3)
      have hzc := hwx.size
      have hbz := HB.out.size
      have HO := Lib.hid (World.ownsRow.alloc y4 (.cells #[.int .i64 q.kind, .string q.name, .slice A8 n8 c8, .int .i64 q.dir, .bool q.left.start, .bool q.left.fin, .slice M1 e1' z1, .slice M2 e2' z2, .slice M3 e3' z3, .int .i64 q.left.cursor, .bool q.right.start, .bool q.right.fin, .slice N1 h1' t1, .slice N2 h2' t2, .slice N3 h3' t3, .int .i64 q.right.cursor] 40))
      have HN2 := Lib.hid (Rd.new wc 40 16 1 [.int .i64 q.kind, .string q.name, .slice A8 n8 c8, .int .i64 q.dir, .bool q.left.start, .bool q.left.fin, .slice M1 e1' z1, .slice M2 e2' z2, .slice M3 e3' z3, .int .i64 q.left.cursor, .bool q.right.start, .bool q.right.fin, .slice N1 h1' t1, .slice N2 h2' t2, .slice N3 h3' t3, .int .i64 q.right.cursor] rfl)
      have H1C := Lib.hid hone.2
      have HPQ := Lib.hid hpc
      have HWC := Lib.hid hwx
      have Y1 := Lib.hid y1
      have Y2 := Lib.hid y2
      have Y3 := Lib.hid y3
      clear hbx hwx hk3 hpc y1 y2 y3 y4 hone
      go_wp2_with (at_builtin; refine wpList_append_rd _ rfl (.tmp 52) (.tmp 54) 22 rfl w.heap.size 40 i0 _ 16 232 Try.underlying22 hi hz0 hz1 hz2 rfl (by decide) _ _ _ rfl HO.out _ (some ⟨wc.heap.size, 0, none⟩) 1 1 [.int .i64 q.kind, .string q.name, .slice A8 n8 c8, .int .i64 q.dir, .bool q.left.start, .bool q.left.fin, .slice M1 e1' z1, .slice M2 e2' z2, .slice M3 e3' z3, .int .i64 q.left.cursor, .bool q.right.start, .bool q.right.fin, .slice N1 h1' t1, .slice N2 h2' t2, .slice N3 h3' t3, .int .i64 q.right.cursor] rfl HN2.out H1C.out (by rw [hml]; unfold maxLen; omega) (by rw [hml]; omega) (by simp; omega) ?_)
      intro v9 w9 happ
      rw [← hml] at happ
      have HBN := Lib.hid ((HB.out.trans (HWC.out.mono hbz)).trans (((Below.refl _ _).alloc (Nat.le_trans hbz hzc) _).trans (happ.below (by simp; omega) HO.out)))
      have hka : Keeps wc (RowX B w.heap.size u3) w9 (RowX B w.heap.size v9) := (Keeps.alloc _ (fun _ h _ => h)).trans (row_app hB HO.out happ)
      have HOW := Lib.hid (OwnL.push Y1.out Y2.out Y3.out (fun _ _ => PartX.keep hka) (HPQ.out.keep hka) rfl happ)
      clear happ hka
      go_wp2_with fail
      refine ⟨⟨k + 1, hlt, by go_num, ?_, HBN.out⟩, by simp only [intOf]; omega⟩
      rw [HTK.out]
      exact HOW.out
    · obtain rfl : k = n := by omega
      have htl : l.take k = l := by rw [List.take_of_length_le (by rw [HLEN.out]; exact Nat.le_refl _)]
      rw [htl] at hown
      obtain ⟨Am, km, rfl, _⟩ := hown.form
      have hmk : (l.map bareD).length = k := by rw [List.length_map, HLEN.out]
      have hres := OwnL.done hown (R' := PartX wr (Fr B w.heap.size)) (X := Fr B w.heap.size) (fun _ _ => PartX.keep (Keeps.refl (fun _ h => h.imp id (fun h => h.1)))) (fun b hb' => by
        obtain ⟨_, _, _, _, h4⟩ := hown
        exact .inr (own_lt h4 hb').1)
      rw [hmk] at hres
      have HRES := Lib.hid hres
      have HB := Lib.hid hb
      clear hown hb hres
      rw [hmk]
      go_wp2_with fail
      go_ret
      exact ⟨⟨Am, km, rfl, HRES.out⟩, HB.out⟩

end Go.Proofs.Ythcjiainpaebfaa
