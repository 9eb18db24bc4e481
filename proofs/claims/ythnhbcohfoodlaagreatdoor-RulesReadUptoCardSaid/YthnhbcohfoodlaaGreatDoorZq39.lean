/- SynRead + RulesNum + RulesRight + RdPartFr -/
import Derived.Test.YthnhbcohfoodlaaGreatDoorZq35
import Derived.Test.YthnhbcohfoodlaaGreatDoorZq29
import Derived.Test.YthnhbcohfoodlaaGreatDoorZq6
import Derived.Test.YthnhbcohfoodlaaGreatDoorZq18
import Derived.Lib.RuneBytes
import Derived.Test.YthnhbcohfoodlaaGreatDoorZq7
import Derived.Test.YthnhbcohfoodlaaGreatDoorShelf
import Derived.Lib.FrozenHead
import Derived.Lib.FrozenHead2
import Derived.Test.YthnhbcohfoodlaaGreatDoorZq8
import Derived.Test.YthnhbcohfoodlaaGreatDoorZq9
import Derived.Test.YthnhbcohfoodlaaGreatDoorZq2
import Derived.Lib.MapLaws
import Derived.Test.YthnhbcohfoodlaaGreatDoorZq10
import Derived.Test.YthnhbcohfoodlaaGreatDoorZq13
import Derived.Test.YthnhbcohfoodlaaGreatDoorZq38
import Derived.Test.YthnhbcohfoodlaaGreatDoorZq14
import Derived.Test.YthnhbcohfoodlaaGreatDoorZq25
namespace Go.Proofs.YthnhbcohfoodlaaGreatDoor
open Go.RowKit
theorem vJ {w : World} {R F m : Nat} {v : Value} {x p : Int} {tR tF : TypeId} (hR : aM w R tR #[v]) (hF : aM w F tF #[.int .i64 x, .int .i64 p]) (hne : R ≠ F) :
    aM ((((w.drewN m).setCell ⟨R, 0, none⟩ v).setCell ⟨F, 0, none⟩ (.int .i64 x)).setCell ⟨F, 1, none⟩ (.int .i64 p)) R tR #[v] ∧ aM ((((w.drewN m).setCell ⟨R, 0, none⟩ v).setCell ⟨F, 0, none⟩ (.int .i64 x)).setCell ⟨F, 1, none⟩ (.int .i64 p)) F tF #[.int .i64 x, .int .i64 p] ∧
      ∀ B, B ≤ R → B ≤ F → B ≤ w.heap.size → Below B w ((((w.drewN m).setCell ⟨R, 0, none⟩ v).setCell ⟨F, 0, none⟩ (.int .i64 x)).setCell ⟨F, 1, none⟩ (.int .i64 p)) ∧
        aC w (fun b => b ≠ R ∧ b ≠ F) ((((w.drewN m).setCell ⟨R, 0, none⟩ v).setCell ⟨F, 0, none⟩ (.int .i64 x)).setCell ⟨F, 1, none⟩ (.int .i64 p)) (fun b => b ≠ R ∧ b ≠ F) := by
 have h1 : aM ((w.drewN m).setCell ⟨R, 0, none⟩ v) R tR #[v] := (hR.drewN m).put 0 v;have b1 := aF.set (w.drewN m) R 0 v;have g1 : aM ((w.drewN m).setCell ⟨R, 0, none⟩ v) F tF #[.int .i64 x, .int .i64 p] := (b1.2.2.2.2 F (hF.drewN m).lt (Ne.symm hne)).trans (hF.drewN m);have b2 := aF.set ((w.drewN m).setCell ⟨R, 0, none⟩ v) F 0 (.int .i64 x);have g2 : aM (((w.drewN m).setCell ⟨R, 0, none⟩ v).setCell ⟨F, 0, none⟩ (.int .i64 x)) F tF #[.int .i64 x, .int .i64 p] := g1.put 0 _;have h2 : aM (((w.drewN m).setCell ⟨R, 0, none⟩ v).setCell ⟨F, 0, none⟩ (.int .i64 x)) R tR #[v] := (b2.2.2.2.2 R h1.lt hne).trans h1;have b3 := aF.set (((w.drewN m).setCell ⟨R, 0, none⟩ v).setCell ⟨F, 0, none⟩ (.int .i64 x)) F 1 (.int .i64 p);refine ⟨(b3.2.2.2.2 R h2.lt hne).trans h2, g2.put 1 _, fun B hR hF hw => ⟨?_, ?_⟩⟩;exact ((below_drewN (Below.refl B w) m).trans (b1.to (show B ≤ (w.drewN m).heap.size from hw) hR)).trans ((b2.to (Nat.le_trans hw b1.1) hF).trans (b3.to (Nat.le_trans (Nat.le_trans hw b1.1) b2.1) hF));exact (((aC.below (below_drewN (Below.refl _ w) m) (fun b h _ => h)).trans (b1.keeps (X' := fun b => b ≠ R ∧ b ≠ F) (fun b h => h.1) (fun b h _ => h))).trans (b2.keeps (X' := fun b => b ≠ R ∧ b ≠ F) (fun b h => h.2) (fun b h _ => h))).trans (b3.keeps (fun b h => h.2) (fun b h _ => h))
def fF {α : Type} (r : fH α) : Prop := ∀ e p, r = .error (e, p) → e ≠ 0
theorem fP {L : List Int} {i : Nat} {r : Int} {e : Int} {p : Nat} (h : aH L i r = .error (e, p)) : e ≠ 0 := by
 unfold aH at h;split at h
 ·cases h
 injection h with h; injection h with h1 h2; omega
theorem Dq (L : List Int) (i : Nat) : fF (gp L i) := by
 intro e p h;unfold gp at h;cases h1 : aH L (i + 1) 123 with
 | error x => obtain ⟨x1, x2⟩ := x; rw [h1] at h; simp only at h; injection h with h; injection h with h3 h4; subst h3; exact fP h1
 | ok a =>
  rw [h1] at h;simp only at h;split at h
  ·injection h with h; injection h with h1 h2; omega
  cases h2 : aH L (aq ct L a) 125 with
  | error x => obtain ⟨x1, x2⟩ := x; rw [h2] at h; simp only at h; injection h with h; injection h with h3 h4; subst h3; exact fP h2
  | ok k =>
   rw [h2] at h;simp only at h;split at h
   ·injection h with h; injection h with h1 h2; omega
   cases h
theorem oY (L : List Int) (i : Nat) : fF (bU L i) := by
 intro e p h;unfold bU at h;(repeat' (split at h));(any_goals (cases h; done));(any_goals (injection h with h; injection h with h1 h2; omega));exact Dq _ _ _ _ h
theorem Bj (L : List Int) (i : Nat) : fF (iw L i) := by
 intro e p h;unfold iw at h;cases h1 : bU L i with
 | error x => obtain ⟨x1, x2⟩ := x; rw [h1] at h; simp only at h; injection h with h; injection h with h3 h4; subst h3; exact oY _ _ _ _ h1
 | ok q =>
  obtain ⟨a, j⟩ := q;rw [h1] at h;simp only at h;split at h
  ·cases h2 : bU L (j + 1) with
   | error x => obtain ⟨x1, x2⟩ := x; rw [h2] at h; simp only at h; injection h with h; injection h with h3 h4; subst h3; exact oY _ _ _ _ h2
   | ok q =>
    obtain ⟨b, k⟩ := q;rw [h2] at h;simp only at h;split at h
    ·injection h with h; injection h with h1 h2; omega
    cases h
  cases h
theorem zW (L : List Int) (i : Nat) : fF (dN L i) := by
 intro e p h;unfold dN at h;split at h
 ·injection h with h; injection h with h1 h2; omega
 split at h
 ·rename_i h1; cases h; exact fP h1
 split at h
 ·rename_i h1; cases h; exact fP h1
 cases h
theorem BW {inner : Nat → fH ag} (hi : ∀ i, fF (inner i)) (L : List Int) (i : Nat) : fF (bZ inner L i) := by
 intro e p h;unfold bZ at h;split at h;exact zW _ _ _ _ h;split at h;exact hi _ _ _ h;split at h;exact hi _ _ _ h;split at h
 ·rename_i h1; cases h; exact Bj _ _ _ _ h1
 cases h
theorem zM {inner : Nat → fH ag} (hi : ∀ i, fF (inner i)) (L : List Int) : ∀ f i s, fF (cH inner L f i s) := by
 intro f;induction f with
 | zero => intro i s e p h; unfold cH at h; injection h with h; injection h with h1 h2; omega
 | succ f ih =>
  intro i s e p h;rw [cH] at h;split at h
  ·cases h
  split at h
  ·rename_i h1; cases h; exact BW hi _ _ _ _ h1
  split at h
  ·rename_i h1; injection h with h; injection h with h2 h3; subst h2; exact h1
  exact ih _ _ _ _ h
theorem sg (L : List Int) : ∀ n i, fF (aR L n i) := by
 intro n;induction n with
 | zero => intro i e p h; unfold aR at h; injection h with h; injection h with h1 h2; split at h1 <;> omega
 | succ n ih =>
  intro i e p h;rw [aR] at h;split at h
  ·rename_i h1; cases h; exact fP h1
  split at h
  ·rename_i h1; cases h; exact zM ih _ _ _ _ _ _ h1
  split at h
  ·split at h
   ·rename_i h1; injection h with h; injection h with h2 h3; subst h2; exact h1
   cases h
  cases h
theorem ux (L : List Int) (i : Nat) : fF (cQ L i) := by
 intro e p h;unfold cQ at h;split at h
 ·cases h
 injection h with h; injection h with h1 h2; omega
theorem wY (L : List Int) (i : Nat) : fF (eT L i) := by
 intro e p h;unfold eT at h;split at h
 ·cases h
 injection h with h; injection h with h1 h2; omega
theorem Cx (L : List Int) (a : Nat) (out : List aE) (cur : Int) (e : Int) (p : Nat) (h : bq L a out cur = .error (e, p)) : e ≠ 0 := by
 unfold bq at h;split at h
 ·split at h
  ·injection h with h; injection h with h1 h2; omega
  cases h
 split at h
 ·split at h
  ·rename_i h1; injection h with h; subst h; exact sg L 20 a _ _ h1
  cases h
 split at h
 ·split at h
  ·rename_i h1; injection h with h; subst h; exact ux L _ _ _ h1
  cases h
 split at h
 ·split at h
  ·rename_i h1; injection h with h; subst h; exact wY L _ _ _ h1
  cases h
 split at h
 ·split at h
  ·rename_i h1; injection h with h; subst h; exact oY L _ _ _ h1
  split at h
  ·cases h
  injection h with h; injection h with h1 h2; omega
 cases h
theorem ny (L : List Int) : ∀ f i out cur, fF (cg L f i out cur) := by
 intro f;induction f with
 | zero => intro i out cur e p h; rw [cg] at h; injection h with h; injection h with h1 h2; omega
 | succ f ih =>
  intro i out cur e p h;rw [cg] at h;split at h
  ·rename_i h1; injection h with h; subst h; exact Cx L _ _ _ _ _ h1
  ·cases h
  split at h
  ·injection h with h; injection h with h1 h2; omega
  exact ih _ _ _ _ _ h
theorem AY (L : List Int) (st : Bool) (a : Nat) : fF (cM L st a) := by
 intro e p h;unfold cM at h;split at h
 ·rename_i h1; injection h with h; subst h; exact ny L _ _ _ _ _ _ h1
 split at h
 ·split at h
  ·injection h with h; injection h with h1 h2; omega
  split at h
  ·rename_i h1; injection h with h; subst h; exact ny L _ _ _ _ _ _ h1
  cases h
 split at h
 ·injection h with h; injection h with h1 h2; omega
 cases h
theorem BX (L : List Int) (a : Nat) : fF (dx L a) := by
 intro e p h;unfold dx at h;split at h
 ·split at h
  ·rename_i h1; injection h with h; subst h; exact ny L _ _ _ _ _ _ h1
  split at h
  ·injection h with h; injection h with h1 h2; omega
  split at h <;> cases h
 cases h
theorem ue (L : List Int) (i : Nat) : fF (cj L i) := by
 intro e p h;unfold cj at h;split at h
 ·rename_i h1; injection h with h; subst h; exact AY L _ _ _ _ h1
 split at h
 ·rename_i h1; injection h with h; subst h; exact BX L _ _ _ h1
 cases h
theorem yX (L : List Int) (i : Nat) : fF (cl L i) := by
 intro e p h;unfold cl at h;split at h
 ·cases h
 split at h
 ·cases h
 split at h
 ·rename_i h1; injection h with h; subst h; exact fP h1
 cases h
theorem CO (L : List Int) (i : Nat) : fF (dy L i) := by
 intro e p h;unfold dy at h;split at h
 ·unfold fo at h;split at h
  ·rename_i h1; injection h with h; subst h; exact fP h1
  split at h
  ·split at h
   ·rename_i h1; injection h with h; subst h; exact sg L 20 _ _ _ h1
   cases h
  split at h
  ·cases h
  injection h with h; injection h with h1 h2; omega
 split at h
 ·unfold jt at h;split at h
  ·rename_i h1; injection h with h; subst h; exact ux L _ _ _ h1
  split at h
  ·rename_i h1; injection h with h; subst h; exact fP h1
  split at h
  ·rename_i h1; injection h with h; subst h; exact sg L 20 _ _ _ h1
  cases h
 unfold fB at h;split at h
 ·rename_i h1; injection h with h; subst h; exact ue L _ _ _ h1
 split at h
 ·rename_i h1; injection h with h; subst h; exact yX L _ _ _ h1
 split at h
 ·rename_i h1; injection h with h; subst h; exact ue L _ _ _ h1
 split at h
 ·rename_i h1; injection h with h; injection h with h2 h3; subst h2; exact h1
 cases h
theorem CA (L : List Int) : ∀ f i l (e : Int) (p : Nat), ek L f i l = .error (e, p) → e ≠ 0 := by
 intro f;induction f with
 | zero => intro i l e p h; rw [ek] at h; injection h with h; injection h with h1 h2; omega
 | succ f ih =>
  intro i l e p h;rw [ek] at h;split at h
  ·cases h
  split at h
  ·injection h with h; injection h with h1 h2; omega
  split at h
  ·rename_i h1; injection h with h; subst h; exact CO L _ _ _ h1
  split at h
  ·rename_i h1; injection h with h; subst h; exact fP h1
  exact ih _ _ _ _ h
theorem lu {L : List Int} (h : 16000 < L.length) : fD L = ([], (4, 0)) := by unfold fD; rw [if_pos h]
theorem nj {L : List Int} {e : Int} {p : Nat} (h : ¬ 16000 < L.length) (h2 : ek L (L.length + 1) 0 [] = .error (e, p)) : fD L = ([], (e, (p : Int))) := by unfold fD; rw [if_neg h, h2]
theorem oM {L : List Int} {l : List aZ} (h : ¬ 16000 < L.length) (h2 : ek L (L.length + 1) 0 [] = .ok l) : fD L = (l, (0, 0)) := by unfold fD; rw [if_neg h, h2]
def wO (a : aE) : Prop := xD a = a ∧ (a.kind = 1 ∨ a.kind = 2 ∨ a.kind = 3) ∧ a.name.size ≤ 20
theorem Bu {L : List Int} {a : Nat} {out o : List aE} {cur c : Int} {j : Nat} (h : bq L a out cur = .ok (some ((o, c), j))) (ho : ∀ x ∈ out, wO x) : ∀ x ∈ o, wO x := by
 have push : ∀ (l : List aE), (∀ x ∈ l, wO x) → ∀ x ∈ out ++ l, wO x := by
  intro l hl x hx;rcases List.mem_append.1 hx with hx | hx;exact ho x hx;exact hl x hx
 have rune : ∀ x, wO (cC x) := fun x => ⟨rfl, .inl rfl, Nat.zero_le _⟩;unfold bq at h;split at h
 ·split at h
  ·cases h
  injection h with h; injection h with h; injection h with h1 h2; injection h1 with h1 h3;subst h1;exact ho
 split at h
 ·split at h
  ·cases h
  injection h with h; injection h with h; injection h with h1 h2; injection h1 with h1 h3;subst h1;exact push _ (fun x hx => by rw [List.mem_singleton.1 hx]; exact ⟨rfl, .inr (.inl rfl), Nat.zero_le _⟩)
 split at h
 ·split at h
  ·cases h
  rename_i hn;injection h with h; injection h with h; injection h with h1 h2; injection h1 with h1 h3;subst h1;exact push _ (fun x hx => by rw [List.mem_singleton.1 hx]; exact ⟨rfl, .inr (.inr rfl), BH (jk hn).2.1⟩)
 split at h
 ·split at h
  ·cases h
  rename_i hq;injection h with h; injection h with h; injection h with h1 h2; injection h1 with h1 h3;subst h1;unfold eT at hq;split at hq
  ·injection hq with hq; injection hq with hq KB;subst hq;refine push _ (fun x hx => ?_);obtain ⟨y, _, rfl⟩ := List.mem_map.1 hx;exact rune y
  cases hq
 split at h
 ·split at h
  ·cases h
  split at h
  ·injection h with h; injection h with h; injection h with h1 h2; injection h1 with h1 h3;subst h1;exact push _ (fun x hx => by rw [List.mem_singleton.1 hx]; exact rune _)
  cases h
 injection h with h; cases h
theorem xY {L : List Int} : ∀ (f i : Nat) (out : List aE) (cur : Int) (v : List aE × Int) (j : Nat), (∀ x ∈ out, wO x) → cg L f i out cur = .ok (v, j) → ∀ x ∈ v.1, wO x := by
 intro f;induction f with
 | zero => intro i out cur v j _ h; rw [cg] at h; cases h
 | succ f ih =>
  intro i out cur v j ho h;rw [cg] at h;cases he : bq L (aj L i) out cur with
  | error e => rw [he] at h; cases h
  | ok q =>
   rw [he] at h;cases q with
   | none => simp only at h; injection h with h; injection h with h1 h2; subst h1; exact ho
   | some q =>
    obtain ⟨⟨o, c⟩, k⟩ := q;simp only at h;split at h
    ·cases h
    exact ih _ _ _ _ _ (Bu he ho) h
theorem iD {L : List Int} {i : Nat} {v : List aE × Int} {j : Nat} (h : bA L i = .ok (v, j)) : ∀ x ∈ v.1, wO x := xY _ _ _ _ _ _ (by simp) h
def KK (s : bp) : Prop := (∀ x ∈ s.before, wO x) ∧ (∀ x ∈ s.source, wO x) ∧ ∀ x ∈ s.after, wO x
theorem rV {l : List aE} (h : ∀ x ∈ l, wO x) : l.map xD = l := by
 induction l with
 | nil => rfl
 | cons a l ih => rw [List.map_cons, (h a List.mem_cons_self).1, ih (fun x hx => h x (List.mem_cons_of_mem _ hx))]
theorem KK.bare {s : bp} (h : KK s) : AN s = s := by
 unfold AN;rw [rV h.1, rV h.2.1, rV h.2.2]
theorem jr {L : List Int} {i : Nat} {v : bp} {j : Nat} (h : cj L i = .ok (v, j)) : KK v := by
 have nil : ∀ x ∈ ([] : List aE), wO x := (by simp);unfold cj at h;cases hh : cM L (decide (pk L (aj L i) = 94)) (if pk L (aj L i) = 94 then aj L i + 1 else aj L i) with
 | error e => rw [hh] at h; cases h
 | ok q =>
  obtain ⟨⟨b, s, c⟩, j1⟩ := q;rw [hh] at h;simp only at h;have h1 : (∀ x ∈ b, wO x) ∧ ∀ x ∈ s, wO x := by
   unfold cM at hh;cases hi : bA L (if pk L (aj L i) = 94 then aj L i + 1 else aj L i) with
   | error e => rw [hi] at hh; cases hh
   | ok q =>
    obtain ⟨⟨l, c1⟩, j2⟩ := q;rw [hi] at hh;simp only at hh;split at hh
    ·split at hh
     ·cases hh
     cases hi2 : bA L (j2 + 1) with
     | error e => rw [hi2] at hh; cases hh
     | ok q =>
      obtain ⟨⟨l2, c2⟩, j3⟩ := q;rw [hi2] at hh;simp only at hh;injection hh with hh; injection hh with hh MR; injection hh with L6 JO; injection JO with NA Ls;subst L6 NA;exact ⟨iD hi, iD hi2⟩
    split at hh
    ·cases hh
    injection hh with hh; injection hh with hh MR; injection hh with L6 JO; injection JO with NA Ls;subst L6 NA;exact ⟨nil, iD hi⟩
  cases ht : dx L j1 with
  | error e => rw [ht] at h; cases h
  | ok q =>
   obtain ⟨⟨a, fin⟩, k⟩ := q;have h2 : ∀ x ∈ a, wO x := by
    unfold dx at ht;split at ht
    ·cases hi : bA L (j1 + 1) with
     | error e => rw [hi] at ht; cases ht
     | ok q =>
      obtain ⟨⟨l, c1⟩, j2⟩ := q;rw [hi] at ht;simp only at ht;split at ht
      ·cases ht
      split at ht
      ·injection ht with ht; injection ht with ht1 KG; injection ht1 with Nq Rb; subst Nq; exact iD hi
      injection ht with ht; injection ht with ht1 KG; injection ht1 with Nq Rb; subst Nq; exact iD hi
    injection ht with ht; injection ht with ht1 KG; injection ht1 with Nq Rb; subst Nq; exact nil
   rw [ht] at h;simp only at h;injection h with h; injection h with h3 h4;subst h3;exact ⟨h1.1, h1.2, h2⟩
def Ou (p : aZ) : Prop := gf p = 0 ∧ GB p = p ∧ KK p.left ∧ KK p.right
theorem gd : KK bg := ⟨by simp [bg], by simp [bg], by simp [bg]⟩
theorem Ah {L : List Int} (hL : bY L) {i : Nat} {v : aZ} {j : Nat} (h : dy L i = .ok (v, j)) : Ou v := by
 unfold dy at h;split at h
 ·unfold fo at h;split at h
  ·cases h
  split at h
  ·split at h
   ·cases h
   rename_i hs;injection h with h; injection h with h1 h2; subst h1;exact ⟨eX (iQ hL 20 _ _ _ hs).2, rfl, gd, gd⟩
  split at h
  ·rename_i hb;injection h with h; injection h with h1 h2; subst h1;refine ⟨?_, rfl, gd, gd⟩;unfold gf;rw [if_neg (show ¬ ((4 : Int) = 1) by decide), if_neg (show ¬ ((4 : Int) = 3) by decide), if_pos rfl, if_pos hb]
  cases h
 split at h
 ·unfold jt at h;split at h
  ·cases h
  rename_i hn;split at h
  ·cases h
  split at h
  ·cases h
  rename_i hs;injection h with h; injection h with h1 h2; subst h1;refine ⟨?_, rfl, gd, gd⟩;unfold gf;rw [if_pos rfl, if_pos (jk hn).2.1];exact eX (iQ hL 20 _ _ _ hs).2
 unfold fB at h;split at h
 ·cases h
 rename_i hl;split at h
 ·cases h
 split at h
 ·cases h
 rename_i hr;split at h
 ·cases h
 rename_i hw;injection h with h; injection h with h1 h2; subst h1;have g1 := jr hl;have g2 := jr hr;refine ⟨Decidable.of_not_not hw, ?_, g1, g2⟩;unfold GB;simp only [g1.bare, g2.bare];rfl
theorem z9 {L : List Int} (hL : bY L) : ∀ (f i : Nat) (l r : List aZ), ek L f i l = .ok r → l.length ≤ 200 → (∀ p ∈ l, Ou p) → (∀ p ∈ r, Ou p) ∧ r.length ≤ 200 := by
 intro f;induction f with
 | zero => intro i l r h; rw [ek] at h; cases h
 | succ f ih =>
  intro i l r h hn hl;rw [ek] at h;split at h
  ·injection h with h; subst h; exact ⟨hl, hn⟩
  split at h
  ·cases h
  split at h
  ·cases h
  rename_i hp;split at h
  ·cases h
  refine ih _ _ _ h (by rw [List.length_append, List.length_singleton]; omega) (fun p BE => ?_);rcases List.mem_append.1 BE with BE | BE;exact hl p BE;rw [List.mem_singleton.1 BE]; exact Ah hL hp
theorem vL {L : List Int} (hL : bY L) : (∀ p ∈ (fD L).1, Ou p) ∧ (fD L).1.length ≤ 200 := by
 by_cases h1 : 16000 < L.length
 ·rw [lu h1]; exact ⟨by simp, Nat.zero_le _⟩
 cases h2 : ek L (L.length + 1) 0 [] with
 | error e =>
  obtain ⟨e, p⟩ := e;rw [nj h1 h2];exact ⟨by simp, Nat.zero_le _⟩
 | ok l =>
  rw [oM h1 h2];exact z9 hL _ _ _ _ h2 (Nat.zero_le _) (by simp)
theorem cB.E3 {w : World} {X : Nat → Prop} {u : Value} {l : List aE} (h : cB w X u l) (hg : ∀ a ∈ l, wO a) : ∃ A n c, u = .slice A n c ∧ de w X A n l ∧ n ≤ maxLen := by
 obtain ⟨A, n, c, rfl, ⟨css, h1, h2, h3, h4, h5⟩, _, hn⟩ := h;refine ⟨A, n, c, rfl, ⟨css, h1, h2, fun i a cs ha hc => ?_, h4, h5⟩, by unfold maxLen; omega⟩;obtain ⟨A', n', c', e, g1, g2, g3⟩ := h3 i a cs ha hc;obtain ⟨_, k1, k2⟩ := hg a (List.mem_of_getElem? ha);exact ⟨A', n', c', e, g1, g3, by unfold dU; omega, by unfold maxLen; omega⟩
theorem sv {L : List Int} {i : Nat} {v : bp} {j : Nat} (h : cj L i = .ok (v, j)) : -1 ≤ v.af ∧ v.af ≤ 20 := by
 have one : ∀ {i : Nat} {l : List aE} {c : Int} {j : Nat}, bA L i = .ok ((l, c), j) → -1 ≤ c ∧ c ≤ 20 := fun h => nx _ _ _ _ (Nat.zero_le _) (by decide) (by decide) h;unfold cj at h;cases hh : cM L (decide (pk L (aj L i) = 94)) (if pk L (aj L i) = 94 then aj L i + 1 else aj L i) with
 | error e => rw [hh] at h; cases h
 | ok q =>
  obtain ⟨⟨b, s, c⟩, j1⟩ := q;rw [hh] at h;simp only at h;have h1 : -1 ≤ c ∧ c ≤ 20 := by
   unfold cM at hh;cases hi : bA L (if pk L (aj L i) = 94 then aj L i + 1 else aj L i) with
   | error e => rw [hi] at hh; cases hh
   | ok q =>
    obtain ⟨⟨l, c1⟩, j2⟩ := q;rw [hi] at hh;simp only at hh;split at hh
    ·split at hh
     ·cases hh
     cases hi2 : bA L (j2 + 1) with
     | error e => rw [hi2] at hh; cases hh
     | ok q =>
      obtain ⟨⟨l2, c2⟩, j3⟩ := q;rw [hi2] at hh;simp only at hh;injection hh with hh; injection hh with hh MR; injection hh with L6 JO; injection JO with NA Ls;subst Ls;exact one hi2
    split at hh
    ·cases hh
    injection hh with hh; injection hh with hh MR; injection hh with L6 JO; injection JO with NA Ls;subst Ls;exact one hi
  cases ht : dx L j1 with
  | error e => rw [ht] at h; cases h
  | ok q =>
   obtain ⟨⟨a, fin⟩, k⟩ := q;rw [ht] at h;simp only at h;injection h with h; injection h with h3 h4;subst h3;exact h1
def Ju (w : World) (C : Nat) (A : Option Addr) (n c : Nat) (L : List Int) (r : fH bp) (e : Ending) (w' : World) : Prop :=
  match r with
  | .ok (d, j) => (∃ A1 n1 c1 A2 n2 c2 A3 n3 c3, e = .returned (.agg #[.bool d.start, .bool d.fin, .slice A1 n1 c1, .slice A2 n2 c2, .slice A3 n3 c3, .int .i64 d.af]) ∧ je w' (fun b => w.heap.size ≤ b ∧ b ≠ C) d [.bool d.start, .bool d.fin, .slice A1 n1 c1, .slice A2 n2 c2, .slice A3 n3 c3, .int .i64 d.af]) ∧ au w' C A n c L j ∧ aF w C w'
  | .error (x, p) => e = aX x p ∧ aF w C w'
theorem BG (w : World) (C : Nat) (A : Option Addr) (n c : Nat) (L : List Int) (i : Nat) (h : au w C A n c L i) (hL : cA L) (hn : n ≤ 100000) :
    Calls Tryz.prog 100 #[.pointer (some ⟨C, 0, none⟩)] w (Ju w C A n c L (cj L i)) := by
 refine (FB w C A n c L i h hL hn).mono ?_;intro e w' hp;cases hr : cj L i with
 | error e0 => rw [hr] at hp; exact hp
 | ok q =>
  obtain ⟨d, j⟩ := q;rw [hr] at hp;obtain ⟨⟨u1, u2, u3, he, h1, h2, h3⟩, hc, hb⟩ := hp;obtain ⟨g1, g2, g3⟩ := jr hr;have hk : aC w' (fun b => w.heap.size + 2 ≤ b ∧ b ≠ C) w' (fun b => w.heap.size ≤ b ∧ b ≠ C) := aC.refl (fun b hb => ⟨by have := hb.1; omega, hb.2⟩);obtain ⟨A1, n1, c1, rfl, x1, m1⟩ := (h1.keep hk).E3 g1;obtain ⟨A2, n2, c2, rfl, x2, m2⟩ := (h2.keep hk).E3 g2;obtain ⟨A3, n3, c3, rfl, x3, m3⟩ := (h3.keep hk).E3 g3;have Q8 := sv hr;exact ⟨⟨A1, n1, c1, A2, n2, c2, A3, n3, c3, he, A1, n1, c1, A2, n2, c2, A3, n3, c3, rfl, x1, x2, x3, m1, m2, m3, by unfold dU; omega⟩, hc, hb⟩
structure mC (w : World) (C : Nat) (A : Option Addr) (n c : Nat) (L : List Int) (wr : World) (j : Nat) : Prop where
  cur : gj w.heap.size wr C A n c L j
  but : aF w C wr
  res : aM wr w.heap.size 98 #[.int .i64 0, .string ⟨#[]⟩, .slice none 0 0, .int .i64 0, .bool false, .bool false, .slice none 0 0, .slice none 0 0, .slice none 0 0, .int .i64 0, .bool false, .bool false, .slice none 0 0, .slice none 0 0, .slice none 0 0, .int .i64 0]
section
variable {w wr w' : World} {C : Nat} {A : Option Addr} {n c : Nat} {L : List Int} {j j' : Nat}
theorem mC.step (h : mC w C A n c L wr j) (hc : au w' C A n c L j') (hb : aF wr C w') : mC w C A n c L w' j' := by
 have hC := h.cur.lt;exact ⟨h.cur.but hc hb, h.but.trans hb, (hb.2.2.2.2 _ h.res.lt (by omega)).trans h.res⟩
theorem mC.below (h : mC w C A n c L wr j) (hb : Below wr.heap.size wr w') : mC w C A n c L w' j := by
 have aU := hb.mono h.but.1;exact ⟨h.cur.below aU, bl h.but aU, h.res.below hb h.res.lt⟩
theorem mC.put (h : mC w C A n c L wr j) {P : Nat} (hP : w.heap.size < P) (k : Nat) (u : Value) : mC w C A n c L (wr.setCell ⟨P, k, none⟩ u) j := by
 have hb := (aF.set wr P k u);have aU := hb.to (B := w.heap.size) h.but.1 (Nat.le_of_lt hP);exact ⟨h.cur.below aU, bl h.but aU, (hb.2.2.2.2 _ h.res.lt (by omega)).trans h.res⟩
end
theorem sj (w : World) (C : Nat) (A : Option Addr) (n c : Nat) (L : List Int) (i : Nat) (h : au w C A n c L i) : mC w C A n c L (w.alloc (.cells #[.int .i64 0, .string ⟨#[]⟩, .slice none 0 0, .int .i64 0, .bool false, .bool false, .slice none 0 0, .slice none 0 0, .slice none 0 0, .int .i64 0, .bool false, .bool false, .slice none 0 0, .slice none 0 0, .slice none 0 0, .int .i64 0] 98)) i := by
 have hb : Below w.heap.size w (w.alloc (.cells #[.int .i64 0, .string ⟨#[]⟩, .slice none 0 0, .int .i64 0, .bool false, .bool false, .slice none 0 0, .slice none 0 0, .slice none 0 0, .int .i64 0, .bool false, .bool false, .slice none 0 0, .slice none 0 0, .slice none 0 0, .int .i64 0] 98)) := (Below.refl _ _).alloc (Nat.le_refl _) _;exact ⟨(gj.start h).below hb, aF.below C hb, aM.new _ _ _⟩
def iN (w : World) (C b : Nat) : Prop := w.heap.size < b ∧ b ≠ C
theorem cV {w w' : World} {C P : Nat} {t : TypeId} {cs : Array Value} (h : aM w P t cs) (hb : aF w C w') (hP : P ≠ C) : aM w' P t cs := (hb.2.2.2.2 _ h.lt hP).trans h
def pg (w : World) (C : Nat) (A : Option Addr) (n c : Nat) (L : List Int) (r : fH aZ) (e : Ending) (w' : World) : Prop :=
  match r with
  | .ok (d, j) => (∃ cs : List Value, e = .returned (.agg cs.toArray) ∧ bM w' (iN w C) d cs) ∧ au w' C A n c L j ∧ aF w C w'
  | .error (x, p) => e = aX x p ∧ aF w C w'
theorem qP {w wr : World} {C : Nat} {A : Option Addr} {n c : Nat} {L : List Int} {j : Nat} {d : aZ} {vs : List Value} (h : mC w C A n c L wr j) (hp : bM wr (iN w C) d vs) :
    vs.toArray.all (·.oneCell') = true ∧ au (wr.setRow w.heap.size vs.toArray) C A n c L j ∧ aF w C (wr.setRow w.heap.size vs.toArray) ∧
    aM (wr.setRow w.heap.size vs.toArray) w.heap.size 98 vs.toArray ∧ bM (wr.setRow w.heap.size vs.toArray) (iN w C) d vs := by
 have hb := (dK wr w.heap.size vs.toArray).to (B := w.heap.size) h.but.1 (Nat.le_refl _);have hk : aC wr (iN w C) (wr.setRow w.heap.size vs.toArray) (iN w C) := (dK wr w.heap.size vs.toArray).keeps (fun b hb => by have := hb.1; omega) (fun _ h _ => h);exact ⟨by rw [Array.all_eq_true_iff_forall_mem]; intro u hu; exact hp.one.2 u (by simpa using hu), (h.cur.below hb).cur, bl h.but hb, jE h.res, hp.keep hk⟩
theorem cK : (Tryz.prog.info? 98).map (·.size) = some 16 := by kernel_rfl
theorem dD : ∃ fs, Tryz.prog.underlying 98 = some (.struct fs) := ⟨_, Tryz.underlying98⟩
theorem jo (L : List Int) (a : Nat) : (cI L a).size ≤ 4 * L.length := by
 unfold cI;have h1 := runesBytes_size_le (ay L a (aI L a));have h2 : (ay L a (aI L a)).length ≤ L.length := (by unfold ay; rw [List.length_take, List.length_drop]; omega);omega
end Go.Proofs.YthnhbcohfoodlaaGreatDoor
