/- The end of resolve.ready: the passes back turned round; what the two scripts read as. -/
import Derived.Test.YthcjiainpaebfaaReadyBd
namespace Go.Proofs.Ythcjiainpaebfaa
open Go.RowKit Go.Maps

theorem upto_only {l : List PartD} (h : ∀ p ∈ l, partP p = 0) (back : Bool) : ∀ k s, uptoP back l k = .ok s → s.only.length ≤ 200 := by
  intro k
  induction k with
  | zero => intro s e; rw [uptoP] at e; cases e; simp
  | succ k ih =>
    intro s e
    cases h0 : uptoP back l k with
    | error e' => rw [uptoP, h0] at e; cases e
    | ok t =>
      cases hp : l[k]? with
      | none =>
        rw [uptoP, h0] at e
        simp only [hp] at e
        cases e
        exact ih _ h0
      | some p =>
        rw [uptoP_step h0 hp] at e
        have ht := ih _ h0
        unfold stepP at e
        by_cases k1 : p.kind = 1
        · rw [if_pos k1] at e
          cases hl : lookP (l.take k) p.name with
          | some x => rw [hl] at e; cases e
          | none => rw [hl] at e; cases e; exact ht
        rw [if_neg k1] at e
        by_cases k3 : p.kind = 3
        · rw [if_pos k3] at e
          by_cases hs : t.some? = true
          · rw [if_pos hs] at e; cases e
          · rw [if_neg hs] at e
            cases e
            rcases part_kinds (h p (List.mem_of_getElem? hp)) with ⟨h1, _⟩ | ⟨_, h3⟩ | ⟨h1, _⟩ | ⟨h1, _⟩
            · exact absurd h1 k1
            · exact set_small h3
            · rw [k3] at h1; cases h1
            · rw [k3] at h1; cases h1
        rw [if_neg k3] at e
        by_cases k4 : p.kind = 4
        · rw [if_pos k4] at e
          cases e
          exact ht
        rw [if_neg k4] at e
        cases hx : ruleP' (l.take k) p.left p.right with
        | none => rw [hx] at e; cases e
        | some x =>
          cases hy : ruleP' (l.take k) p.right p.left with
          | none => rw [hx, hy] at e; cases e
          | some y =>
            rw [hx, hy] at e
            injection e with e
            subst e
            by_cases d : (back = true ∧ p.dir = 1) ∨ (back = false ∧ p.dir = 2)
            · rw [if_pos d]; exact ht
            · rw [if_neg d]; exact ht

section
variable {B : Nat} {w wr w2 : World} {mb nm : Nat} {l : List PartD} {sm : Bool} {only : Spans} {A A2 : List RuleD} {P Q : List PassD} {va vb vp : Value} {Aq Af : Option Addr} {kq nf cf : Nat}
theorem pass_cells {X : Nat → Prop} {css : List (List Value)} (h1 : css.length = Q.length) (h2 : ∀ (i : Nat) (a : PassD) (cs : List Value), Q[i]? = some a → css[i]? = some cs → PassC wr X a cs) :
    ∀ cs ∈ css, ∃ s A m c, cs = [.string s, .slice A m c] := by
  intro cs hc
  obtain ⟨i, hi⟩ := List.getElem?_of_mem hc
  have hlt := (List.getElem?_eq_some_iff.1 hi).1
  obtain ⟨a, ha⟩ : ∃ a, Q[i]? = some a := ⟨_, List.getElem?_eq_getElem (by omega)⟩
  obtain ⟨u, rfl, A, n, c, rfl, _⟩ := h2 i a cs ha hi
  exact ⟨_, _, _, _, rfl⟩
/-- The passes back, turned round in their own row. -/
theorem RdSt.reverse (h : RdSt B w mb nm l sm only A A2 P Q va vb vp (.slice Aq Q.length kq) Af nf cf wr) (hq : Q.length ≤ 1000) :
    Calls Try.prog 28 #[.slice Aq Q.length kq] wr fun e w' => e = .returned (.tuple #[]) ∧ RdSt B w mb nm l sm only A A2 P Q.reverse va vb vp (.slice Aq Q.length kq) Af nf cf w' := by
  by_cases h0 : Q.length = 0
  · have hQ : Q = [] := List.eq_nil_of_length_eq_zero h0
    subst hQ
    refine (syn_reverse_none Aq kq wr).mono ?_
    rintro e w' ⟨rfl, rfl⟩
    exact ⟨rfl, h⟩
  · have hlo := h.lo
    have hBw := h.hB
    have hry := h.ry
    obtain ⟨⟨ca, a1, a2, a3, a4⟩, ⟨cb, b1, b2, b3, b4⟩, ⟨cp, p1, p2, p3, p4⟩, ⟨css, q1, q2, q3, q4⟩, e1, e2⟩ := hry
    obtain ⟨g, c, hv, _, hg1, hg2⟩ := own_some q4 (by omega)
    injection hv with hv _ hv2
    subst hv hv2
    refine (syn_reverse (mb + 5) g Q.length kq css wr (by omega) hq q1 (pass_cells q1 q2) q4).mono ?_
    rintro e w' ⟨rfl, ho, hgr⟩
    have hK : Keeps wr (Rows4 B (mb + 5) va vb vp (.slice (some ⟨g, 0, none⟩) Q.length kq)) w' (Rows4 B (mb + 5) va vb vp (.slice (some ⟨g, 0, none⟩) Q.length kq)) := by
      intro b hb hl
      have hne : b ≠ g := by
        rcases hb with hb | hb
        · omega
        · intro e; exact hb.2.2.2.2 (by rw [e]; rfl)
      exact ⟨hgr.block b hl (fun e => hne (by injection e)), hb, Nat.lt_of_lt_of_le hl hgr.size⟩
    have hbl : ∀ k, k < mb + 5 → w'.heap[k]? = wr.heap[k]? := fun k hk => hgr.block k (by have := h.sz; omega) (fun e => by injection e with e; omega)
    have kv : ∀ {t : TypeId} {sz n : Nat} {v : Value} {xs : List Value}, v.ownBlock ≠ some g → wr.ownsRow (mb + 5) t sz v n xs → w'.ownsRow (mb + 5) t sz v n xs := by
      intro t sz n v xs hne ho
      exact World.ownsRow.kept ho hgr (.inr hne)
    have na : va.ownBlock ≠ some g := fun e => by
      rcases a4.2 with ⟨hv, _⟩ | ⟨g', cap, cur, hv, _, hg, _⟩
      · rw [hv] at e; simp [Value.ownBlock] at e
      · rw [hv] at e
        simp only [Value.ownBlock, Option.some.injEq] at e
        subst e
        exact own_ne_blk' q4 hg (by decide) rfl
    have nb : vb.ownBlock ≠ some g := fun e => by
      rcases b4.2 with ⟨hv, _⟩ | ⟨g', cap, cur, hv, _, hg, _⟩
      · rw [hv] at e; simp [Value.ownBlock] at e
      · rw [hv] at e
        simp only [Value.ownBlock, Option.some.injEq] at e
        subst e
        exact own_ne_blk' q4 hg (by decide) rfl
    have np : vp.ownBlock ≠ some g := fun e => e2 g e rfl
    refine ⟨rfl, ⟨hBw, EnvM.keep (fun b (hb : b < B) hl => ⟨hbl b (by omega), hb, Nat.lt_of_lt_of_le hl hgr.size⟩) (hbl mb (by omega)) h.env,
      ⟨⟨ca, a1, fun i a cs x y => (a2 i a cs x y).keep hK, a3, kv na a4⟩, ⟨cb, b1, fun i a cs x y => (b2 i a cs x y).keep hK, b3, kv nb b4⟩, ⟨cp, p1, fun i a cs x y => (p2 i a cs x y).keep hK, p3, kv np p4⟩, ⟨css.reverse, by simp [q1], ?_, fun cs hc => q3 cs (List.mem_reverse.1 hc), by rw [List.length_reverse]; exact ho⟩, e1, e2⟩,
      ⟨(hbl _ (by omega)).trans h.v4.1, (hbl _ (by omega)).trans h.v4.2.1, (hbl _ (by omega)).trans h.v4.2.2.1, (hbl _ (by omega)).trans h.v4.2.2.2⟩, Nat.le_trans h.sz hgr.size, hlo,
      ⟨(hbl _ (by omega)).trans h.res.1, (hbl _ (by omega)).trans h.res.2.1, (hbl _ (by omega)).trans h.res.2.2.1, h.res.2.2.2.trans ⟨hgr.os, hgr.tape, hgr.output, hgr.size, fun k hk => hbl k (by omega)⟩⟩, h.set.keep hK⟩⟩
    intro i a cs x y
    have hi : i < Q.length := by
      have := (List.getElem?_eq_some_iff.1 x).1
      simpa using this
    rw [List.getElem?_reverse hi] at x
    rw [List.getElem?_reverse (by omega), q1] at y
    exact (q2 _ a cs x y).keep hK
/-- All blocks but the three results'. -/
def X3 (B g : Nat) (b : Nat) : Prop := b < B ∨ g + 3 ≤ b
theorem RdSt.read (h : RdSt B w mb nm l sm only A A2 P Q va vb vp (.slice Aq Q.length kq) Af nf cf wr) (hp : P.length ≤ maxLen) (hq : Q.length ≤ maxLen) :
    SetV wr (X3 B w.heap.size) only (.slice Af nf cf) ∧ PassesV wr (X3 B w.heap.size) P vp ∧ PassesV wr (X3 B w.heap.size) Q (.slice Aq Q.length kq) := by
  have hlo := h.lo
  have hBw := h.hB
  have hK : Keeps wr (Rows4 B (mb + 5) va vb vp (.slice Aq Q.length kq)) wr (X3 B w.heap.size) := Keeps.refl (fun b hb => by
    rcases hb with hb | hb
    · exact .inl hb
    · exact .inr (by omega))
  obtain ⟨_, _, r3, r4⟩ := h.ry.rows
  obtain ⟨Ap, kp, rfl, _⟩ := h.ry.2.2.1.form
  exact ⟨h.set.keep hK, ⟨Ap, P.length, kp, rfl, OwnL.done h.ry.2.2.1 (fun _ _ => PassC.keep hK) (fun b hb => .inr (by have := (r3 b hb).1; omega)), hp⟩, ⟨Aq, Q.length, kq, rfl, OwnL.done h.ry.2.2.2.1 (fun _ _ => PassC.keep hK) (fun b hb => .inr (by have := (r4 b hb).1; omega)), hq⟩⟩
end

theorem x3_set {w : World} {B s g i : Nat} {u : Value} (h0 : B ≤ g) (h2 : g < s + 3) : Keeps w (X3 B s) (w.setCell ⟨g, i, none⟩ u) (X3 B s) :=
  Keeps.setCell u (fun b hb => by rcases hb with h | h <;> dsimp only <;> omega) (fun _ h _ => h)
theorem fin_post {B lo : Nat} {l : List PartD} {W W' : World} {X : Nat → Prop} {sm : Bool} {only : Spans} {P Q : List PassD} {u1 u2 v1 v2 : Value} (h1 : readyP false l = (⟨sm, only, P⟩, (0, 0))) (h2 : readyP true l = (⟨sm, only, Q⟩, (0, 0)))
    (hs : SetV W X only u1) (hp : PassesV W X P u2) (ht : SetV W X only v1) (hq : PassesV W X Q v2) (hk : Keeps W X W' (Fr B lo)) :
    RdyPost B lo W' l (.returned (.tuple #[.agg #[.bool sm, u1, u2], .agg #[.bool sm, v1, v2], .agg #[.int .i64 0, .int .i64 0]])) :=
  ⟨[.bool sm, u1, u2], [.bool sm, v1, v2], rfl, rfl, by rw [h1], by rw [h1]; exact ⟨_, _, rfl, hs.keep hk, hp.keep hk⟩, by rw [h2]; exact ⟨_, _, rfl, ht.keep hk, hq.keep hk⟩⟩

end Go.Proofs.Ythcjiainpaebfaa
