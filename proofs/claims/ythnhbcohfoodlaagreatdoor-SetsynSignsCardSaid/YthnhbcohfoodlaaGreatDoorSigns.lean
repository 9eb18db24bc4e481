/- Signs are operators, plain: what is read of two sets' texts, one within or behind the other. -/
import Derived.Test.YthnhbcohfoodlaaGreatDoorTurnsAll
namespace Go.Proofs.YthnhbcohfoodlaaGreatDoor
open Go.RowKit

theorem skip_over (pre bl m : List Int) (h1 : ∀ x ∈ bl, blankB x = true) (h2 : blankB (pk m 0) = false) : skipP (pre ++ (bl ++ m)) pre.length = pre.length + bl.length := by
  induction bl generalizing pre with
  | nil =>
    rw [List.nil_append, skip_here (by rw [pk_app0]; exact h2)]
    rfl
  | cons x bl ih =>
    have e : pre ++ (x :: bl ++ m) = (pre ++ [x]) ++ (bl ++ m) := by simp
    have h3 := ih (pre ++ [x]) (fun y hy => h1 y (List.mem_cons_of_mem _ hy))
    have hl : (pre ++ [x]).length = pre.length + 1 := by simp
    have hp : pk (pre ++ (x :: bl ++ m)) pre.length = x := by rw [pk_app0]; rfl
    unfold skipP at h3 ⊢
    rw [runFrom_in (by simp) (by rw [hp]; exact h1 x List.mem_cons_self), e, ← hl, h3]
    simp
    omega
theorem printR_two (l : Spans) (post : List Int) : pk (printR l ++ post) 0 = 91 ∧ pk (printR l ++ post) 1 ≠ 58 := by
  refine ⟨rfl, ?_⟩
  cases l with
  | nil => simp [printR, pk]
  | cons k l =>
    obtain ⟨h, t, eq, hh⟩ := spanR_head k
    have : printR (k :: l) ++ post = 91 :: h :: (t ++ (l.flatMap spanR ++ [93]) ++ post) := by
      unfold printR
      rw [List.flatMap_cons, eq]
      simp
    rw [this]
    exact (headOk_ne hh).2.2.2.2.2.2
/-- A set that stands alone. -/
theorem sign_set {L : List Int} (pre post : List Int) (l : Spans) (lv i : Nat) (hr : RightSet l) (hL : L = pre ++ (printR l ++ post)) (hi : i = pre.length) :
    pk L i = 91 ∧ partP' (setP' L (lv + 1)) L i = .ok (l, i + (printR l).length) := by
  subst hL hi
  obtain ⟨p0, p1⟩ := printR_two l post
  have q0 : pk (pre ++ (printR l ++ post)) pre.length = 91 := by rw [pk_app0]; exact p0
  refine ⟨q0, ?_⟩
  unfold partP'
  rw [if_neg (fun h => p1 (by rw [← pk_app pre (printR l ++ post) 1]; exact h.2)), if_pos q0]
  exact set_read pre post l lv hr
/-- A sign and a set behind it. -/
theorem sign_op {L : List Int} (pre bl post : List Int) (r : Int) (l : Spans) (lv i : Nat) (hr : RightSet l) (h : r = 38 ∨ r = 45) (hb : ∀ x ∈ bl, blankB x = true) (hL : L = pre ++ (r :: (bl ++ (printR l ++ post)))) (hi : i = pre.length) :
    pk L i = r ∧ partP' (setP' L (lv + 1)) L i = .ok (l, i + 1 + bl.length + (printR l).length) := by
  subst hL hi
  have q0 : pk (pre ++ (r :: (bl ++ (printR l ++ post)))) pre.length = r := by rw [pk_app0]; rfl
  refine ⟨q0, ?_⟩
  have e1 : pre ++ (r :: (bl ++ (printR l ++ post))) = (pre ++ [r]) ++ (bl ++ (printR l ++ post)) := by simp
  have e2 : pre ++ (r :: (bl ++ (printR l ++ post))) = (pre ++ [r] ++ bl) ++ (printR l ++ post) := by simp
  have hs := skip_over (pre ++ [r]) bl (printR l ++ post) hb (by rw [(printR_two l post).1]; decide)
  have hl1 : (pre ++ [r]).length = pre.length + 1 := by simp
  have hl2 : (pre ++ [r] ++ bl).length = pre.length + 1 + bl.length := by simp; omega
  unfold partP'
  rw [q0, if_neg (by omega), if_neg (by omega), if_pos h, e1, ← hl1, hs, hl1, ← e1, e2, ← hl2]
  exact set_read (pre ++ [r] ++ bl) post l lv hr

theorem op_first {a : Spans} (ha : RightSet a) : opP 124 [] a = (a, 0) := by
  rw [op_is (s := a) (by decide) right_nil ha ha.canon (fun r _ _ => by simp [doHolds, hasP]), if_neg (by have := ha.size; omega)]

theorem opOf_set : opOf 91 = 124 := by decide
theorem sign_gen {T m : List Int} {a b : Spans} {op : Int} {i2 j2 : Nat} (hT : T = 91 :: (printR a ++ m)) (ha : RightSet a) (hlen : T.length ≤ 4000) (hi2 : skipP T (1 + (printR a).length) = i2) (hne : pk T i2 ≠ 93) (hop : opOf (pk T i2) = op)
    (hp : partP' (setP' T 19) T i2 = .ok (b, j2)) (ho : (opP op a b).2 = 0) (hj : pk T j2 = 93) (hj2 : j2 + 1 = T.length) : readP T = ((opP op a b).1, (0, 0)) := by
  have h0 : pk T 0 = 91 := by rw [hT]; rfl
  obtain ⟨h1, hpa⟩ := sign_set (L := T) [91] m a 18 1 ha (by rw [hT]; rfl) rfl
  have s0 : skipP T 0 = 0 := skip_here (by rw [h0]; decide)
  have s1 : skipP T 1 = 1 := skip_here (by rw [h1]; decide)
  have sj : skipP T j2 = j2 := skip_here (by rw [hj]; decide)
  obtain ⟨f, hf⟩ : ∃ f, T.length + 1 = f + 1 + 1 + 1 := ⟨T.length - 2, by have := pk_lt (L := T) (i := 1) (by rw [h1]; decide); omega⟩
  have hparts : partsP (setP' T 19) T (T.length + 1) 1 [] = .ok ((opP op a b).1, j2 + 1) := by
    rw [hf, partsP_step (j := 1 + (printR a).length) (s := a) (by rw [s1, h1]; decide) (by rw [s1]; exact hpa), s1, h1, opOf_set, op_first ha]
    simp only [ne_eq, not_true_eq_false, if_false]
    rw [partsP_step (j := j2) (s := b) (by rw [hi2]; exact hne) (by rw [hi2]; exact hp), hi2, hop, if_neg (by rw [ho]; decide), partsP_end (by rw [sj]; exact hj), sj]
  unfold readP
  rw [if_neg (by omega), s0, setP', needP_at h0]
  simp only
  rw [if_neg (by rw [h1]; decide), hparts]
  simp only
  rw [if_neg (by rw [h1]; decide)]
  simp only
  rw [if_neg (by have := skipP_ge T (j2 + 1); omega)]

theorem fit_ok {s : Spans} (h : s.length ≤ 200) : (fitP s).2 = 0 := by unfold fitP; rw [if_neg (by omega)]
theorem sorted_perm (l : Spans) : ∃ m : Spans, l.Perm m ∧ m.Pairwise (fun a b => a.1 ≤ b.1) := by
  refine ⟨l.mergeSort (fun a b => decide (a.1 ≤ b.1)), (List.mergeSort_perm l _).symm, ?_⟩
  have := List.pairwise_mergeSort (le := fun (a b : Int × Int) => decide (a.1 ≤ b.1)) (fun a b c h1 h2 => by simp only [decide_eq_true_eq] at *; omega) (fun a b => by simp; omega) l
  exact this.imp (fun h => by simpa using h)
theorem union_ok {a b : Spans} (ha : RightSet a) (hb : RightSet b) (la : a.length ≤ 50) (lb : b.length ≤ 50) : (opP 124 a b).2 = 0 := by
  obtain ⟨m, hm, hs⟩ := sorted_perm (a ++ b)
  rw [union_is ha hb hm hs]
  have h1 : m.length = a.length + b.length := by rw [← hm.length_eq, List.length_append]
  have h2 := (mergedP_is (l := m) (fun x hx => by
    rcases List.mem_append.1 (hm.mem_iff.2 hx) with h | h
    · exact ha.each x h
    · exact hb.each x h) hs).2.1
  exact fit_ok (by omega)
theorem meet_ok {a b : Spans} (ha : RightSet a) (hb : RightSet b) (la : a.length ≤ 50) (lb : b.length ≤ 50) : (opP 38 a b).2 = 0 := by
  rw [meet_is ha hb]
  have := (meetP_is ha.canon hb.canon).1
  exact fit_ok (by omega)
theorem notP_len (s : Spans) : (notP s).length ≤ s.length + 1 := notGo_len s 0
theorem minus_ok {a b : Spans} (ha : RightSet a) (hb : RightSet b) (la : a.length ≤ 50) (lb : b.length ≤ 50) : (opP 45 a b).2 = 0 := by
  rw [minus_is ha hb]
  have := (meetP_is ha.canon (notP_is hb.canon).1).1
  have := notP_len b
  exact fit_ok (by omega)
theorem compl_ok {a : Spans} (ha : RightSet a) (la : a.length ≤ 50) (b : Spans) : (opP 94 a b).2 = 0 := by
  rw [compl_is ha b]
  have := notP_len a
  exact fit_ok (by omega)

def signU (a b : Spans) : List Int := 91 :: (printR a ++ (printR b ++ [93]))
def signM (a b : Spans) : List Int := 91 :: (printR a ++ (38 :: (printR b ++ [93])))
def signD (a b : Spans) : List Int := 91 :: (printR a ++ (32 :: 45 :: 32 :: (printR b ++ [93])))
theorem fifty {a : Spans} (ha : RightSet a) (la : a.length ≤ 50) : (printR a).length ≤ 1052 := by
  have := printR_len a ha.each
  omega
theorem sign_u {a b : Spans} (ha : RightSet a) (hb : RightSet b) (la : a.length ≤ 50) (lb : b.length ≤ 50) : readP (signU a b) = ((opP 124 a b).1, (0, 0)) := by
  have l1 := fifty ha la
  have l2 := fifty hb lb
  have hl : (91 :: printR a).length = 1 + (printR a).length := by simp; omega
  have e : signU a b = (91 :: printR a) ++ (printR b ++ [93]) := by simp [signU]
  obtain ⟨p1, p2⟩ := sign_set (L := signU a b) (91 :: printR a) [93] b 18 _ hb e hl.symm
  refine sign_gen (m := printR b ++ [93]) (i2 := 1 + (printR a).length) (j2 := 1 + (printR a).length + (printR b).length) (b := b) rfl ha ?_ (skip_here (by rw [p1]; decide)) (by rw [p1]; decide) (by rw [p1]; decide) p2 (union_ok ha hb la lb) ?_ ?_
  · simp [signU]; omega
  · have e2 : signU a b = (91 :: (printR a ++ printR b)) ++ [93] := by simp [signU]
    have h2 : (91 :: (printR a ++ printR b)).length = 1 + (printR a).length + (printR b).length := by simp; omega
    rw [e2, ← h2, pk_app0]; rfl
  · simp [signU]; omega
theorem sign_m {a b : Spans} (ha : RightSet a) (hb : RightSet b) (la : a.length ≤ 50) (lb : b.length ≤ 50) : readP (signM a b) = ((opP 38 a b).1, (0, 0)) := by
  have l1 := fifty ha la
  have l2 := fifty hb lb
  have hl : (91 :: printR a).length = 1 + (printR a).length := by simp; omega
  have e : signM a b = (91 :: printR a) ++ (38 :: ([] ++ (printR b ++ [93]))) := by simp [signM]
  obtain ⟨p1, p2⟩ := sign_op (L := signM a b) (91 :: printR a) [] [93] 38 b 18 _ hb (.inl rfl) (by simp) e hl.symm
  refine sign_gen (m := 38 :: (printR b ++ [93])) (i2 := 1 + (printR a).length) (j2 := 1 + (printR a).length + 1 + 0 + (printR b).length) (b := b) rfl ha ?_ (skip_here (by rw [p1]; decide)) (by rw [p1]; decide) (by rw [p1]; decide) p2 (meet_ok ha hb la lb) ?_ ?_
  · simp [signM]; omega
  · have e2 : signM a b = (91 :: (printR a ++ 38 :: printR b)) ++ [93] := by simp [signM]
    have h2 : (91 :: (printR a ++ 38 :: printR b)).length = 1 + (printR a).length + 1 + 0 + (printR b).length := by simp; omega
    rw [e2, ← h2, pk_app0]; rfl
  · simp [signM]; omega
theorem sign_d {a b : Spans} (ha : RightSet a) (hb : RightSet b) (la : a.length ≤ 50) (lb : b.length ≤ 50) : readP (signD a b) = ((opP 45 a b).1, (0, 0)) := by
  have l1 := fifty ha la
  have l2 := fifty hb lb
  have hl : ((91 :: printR a) ++ [32]).length = 2 + (printR a).length := by simp; omega
  have hl0 : (91 :: printR a).length = 1 + (printR a).length := by simp; omega
  have e : signD a b = ((91 :: printR a) ++ [32]) ++ (45 :: ([32] ++ (printR b ++ [93]))) := by simp [signD]
  have e0 : signD a b = (91 :: printR a) ++ ([32] ++ (45 :: 32 :: (printR b ++ [93]))) := by simp [signD]
  obtain ⟨p1, p2⟩ := sign_op (L := signD a b) ((91 :: printR a) ++ [32]) [32] [93] 45 b 18 _ hb (.inr rfl) (by decide) e hl.symm
  have hsk := skip_over (91 :: printR a) [32] (45 :: 32 :: (printR b ++ [93])) (by decide) (by rw [pk_cons0]; decide)
  rw [← e0, hl0] at hsk
  refine sign_gen (m := 32 :: 45 :: 32 :: (printR b ++ [93])) (i2 := 2 + (printR a).length) (j2 := 2 + (printR a).length + 1 + 1 + (printR b).length) (b := b) rfl ha ?_ (by rw [hsk]; simp; omega) (by rw [p1]; decide) (by rw [p1]; decide) p2 (minus_ok ha hb la lb) ?_ ?_
  · simp [signD]; omega
  · have e2 : signD a b = (91 :: (printR a ++ 32 :: 45 :: 32 :: printR b)) ++ [93] := by simp [signD]
    have h2 : (91 :: (printR a ++ 32 :: 45 :: 32 :: printR b)).length = 2 + (printR a).length + 1 + 1 + (printR b).length := by simp; omega
    rw [e2, ← h2, pk_app0]; rfl
  · simp [signD]; omega

def signN (a : Spans) : List Int := 91 :: 94 :: (printR a ++ [93])
theorem sign_n {a : Spans} (ha : RightSet a) (la : a.length ≤ 50) : readP (signN a) = ((opP 94 a []).1, (0, 0)) := by
  have l1 := fifty ha la
  have h0 : pk (signN a) 0 = 91 := rfl
  have h94 : pk (signN a) 1 = 94 := rfl
  obtain ⟨h1, hpa⟩ := sign_set (L := signN a) [91, 94] [93] a 18 2 ha rfl rfl
  have s0 : skipP (signN a) 0 = 0 := skip_here (by rw [h0]; decide)
  have s1 : skipP (signN a) 2 = 2 := skip_here (by rw [h1]; decide)
  have hj : pk (signN a) (2 + (printR a).length) = 93 := by
    have e2 : signN a = (91 :: 94 :: printR a) ++ [93] := by simp [signN]
    have h2 : (91 :: 94 :: printR a).length = 2 + (printR a).length := by simp; omega
    rw [e2, ← h2, pk_app0]; rfl
  have sj : skipP (signN a) (2 + (printR a).length) = 2 + (printR a).length := skip_here (by rw [hj]; decide)
  have hlen : (signN a).length = 3 + (printR a).length := by simp [signN]; omega
  obtain ⟨f, hf⟩ : ∃ f, (signN a).length + 1 = f + 1 + 1 := ⟨(signN a).length - 1, by omega⟩
  have hparts : partsP (setP' (signN a) 19) (signN a) ((signN a).length + 1) 2 [] = .ok (a, 2 + (printR a).length + 1) := by
    rw [hf, partsP_step (j := 2 + (printR a).length) (s := a) (by rw [s1, h1]; decide) (by rw [s1]; exact hpa), s1, h1, opOf_set, op_first ha]
    simp only [ne_eq, not_true_eq_false, if_false]
    rw [partsP_end (by rw [sj]; exact hj), sj]
  unfold readP
  rw [if_neg (by omega), s0, setP', needP_at h0]
  simp only
  rw [if_pos (show pk (signN a) (0 + 1) = 94 from h94), show (0 + 1 + 1 : Nat) = 2 from rfl, hparts]
  simp only
  rw [if_pos (show pk (signN a) (0 + 1) = 94 from h94), if_neg (by rw [compl_ok ha la]; decide)]
  simp only
  rw [if_neg (by have := skipP_ge (signN a) (2 + (printR a).length + 1); omega)]
def anyS : Spans := [(0, 1114111)]
theorem any_right : RightSet anyS := ⟨by decide, by decide, by simp [anyS]⟩
theorem any_minus {a : Spans} (ha : RightSet a) : opP 45 anyS a = opP 94 a [] := by
  obtain ⟨h1, h2⟩ := notP_is ha.canon
  rw [compl_is ha []]
  rw [op_is (s := notP a) (by decide) any_right ha h1 (fun r h0 h1' => by
    rw [h2 r h0 h1']
    have : hasP anyS r = true := by simp [hasP, anyS]; omega
    simp [doHolds, this])]
  rfl
def signA (a : Spans) : List Int := 32 :: 91 :: 91 :: 58 :: 97 :: 110 :: 121 :: 58 :: 93 :: 32 :: 45 :: (printR a ++ [32, 93, 32])
theorem sign_a {a : Spans} (ha : RightSet a) (la : a.length ≤ 50) : readP (signA a) = ((opP 94 a []).1, (0, 0)) := by
  have l1 := fifty ha la
  have hlen : (signA a).length = 14 + (printR a).length := by simp [signA]; omega
  have s0 : skipP (signA a) 0 = 1 := skip_over [] [32] (91 :: 91 :: 58 :: 97 :: 110 :: 121 :: 58 :: 93 :: 32 :: 45 :: (printR a ++ [32, 93, 32])) (by decide) (by rw [pk_cons0]; decide)
  have k1 : pk (signA a) 1 = 91 := rfl
  have k2 : pk (signA a) 2 = 91 := rfl
  have k3 : pk (signA a) 3 = 58 := rfl
  have k4 : pk (signA a) 4 = 97 := rfl
  have k5 : pk (signA a) 5 = 110 := rfl
  have k6 : pk (signA a) 6 = 121 := rfl
  have k7 : pk (signA a) 7 = 58 := rfl
  have k8 : pk (signA a) 8 = 93 := rfl
  have s2 : skipP (signA a) 2 = 2 := skip_here (by rw [k2]; decide)
  have r4 : runFrom plainB (signA a) 4 = 7 := by
    rw [runFrom_in (by omega) (by rw [k4]; decide), runFrom_in (by omega) (by rw [k5]; decide), runFrom_in (by omega) (by rw [k6]; decide), runFrom_out (fun _ => by rw [k7]; decide)]
  have t4 : textAt (signA a) 4 7 = [97, 110, 121] := rfl
  have hcls : partP' (setP' (signA a) 19) (signA a) 2 = .ok (anyS, 9) := by
    unfold partP'
    rw [if_pos ⟨k2, k3⟩]
    unfold classP
    rw [r4, t4, show classOf [97, 110, 121] = some anyS by decide]
    simp only
    rw [needP_at k7]
    simp only
    rw [needP_at k8]
  have s9 : skipP (signA a) 9 = 10 := skip_over [32, 91, 91, 58, 97, 110, 121, 58, 93] [32] (45 :: (printR a ++ [32, 93, 32])) (by decide) (by rw [pk_cons0]; decide)
  obtain ⟨p1, p2⟩ := sign_op (L := signA a) [32, 91, 91, 58, 97, 110, 121, 58, 93, 32] [] [32, 93, 32] 45 a 18 10 ha (.inr rfl) (by simp) rfl rfl
  have hp11 : (32 :: 91 :: 91 :: 58 :: 97 :: 110 :: 121 :: 58 :: 93 :: 32 :: 45 :: printR a).length = 10 + 1 + 0 + (printR a).length := by simp; omega
  have e11 : signA a = (32 :: 91 :: 91 :: 58 :: 97 :: 110 :: 121 :: 58 :: 93 :: 32 :: 45 :: printR a) ++ ([32] ++ [93, 32]) := by simp [signA]
  have s11 : skipP (signA a) (10 + 1 + 0 + (printR a).length) = 10 + 1 + 0 + (printR a).length + 1 := by
    rw [e11, ← hp11]
    exact skip_over _ [32] [93, 32] (by decide) (by decide)
  have e12 : signA a = ((32 :: 91 :: 91 :: 58 :: 97 :: 110 :: 121 :: 58 :: 93 :: 32 :: 45 :: printR a) ++ [32]) ++ [93, 32] := by simp [signA]
  have hp12 : ((32 :: 91 :: 91 :: 58 :: 97 :: 110 :: 121 :: 58 :: 93 :: 32 :: 45 :: printR a) ++ [32]).length = 10 + 1 + 0 + (printR a).length + 1 := by rw [List.length_append, hp11]; rfl
  have k12 : pk (signA a) (10 + 1 + 0 + (printR a).length + 1) = 93 := by
    rw [e12, ← hp12, pk_app0]; rfl
  have e13 : signA a = ((32 :: 91 :: 91 :: 58 :: 97 :: 110 :: 121 :: 58 :: 93 :: 32 :: 45 :: printR a) ++ [32, 93]) ++ ([32] ++ []) := by simp [signA]
  have hp13 : ((32 :: 91 :: 91 :: 58 :: 97 :: 110 :: 121 :: 58 :: 93 :: 32 :: 45 :: printR a) ++ [32, 93]).length = 10 + 1 + 0 + (printR a).length + 1 + 1 := by rw [List.length_append, hp11]; rfl
  have s13 : skipP (signA a) (10 + 1 + 0 + (printR a).length + 1 + 1) = 10 + 1 + 0 + (printR a).length + 1 + 1 + 1 := by
    rw [e13, ← hp13]
    exact skip_over _ [32] [] (by decide) (by decide)
  have ho : (opP 45 anyS a).2 = 0 := by rw [any_minus ha]; exact compl_ok ha la []
  obtain ⟨f, hf⟩ : ∃ f, (signA a).length + 1 = f + 1 + 1 + 1 := ⟨(signA a).length - 2, by omega⟩
  have hparts : partsP (setP' (signA a) 19) (signA a) ((signA a).length + 1) 2 [] = .ok ((opP 45 anyS a).1, 10 + 1 + 0 + (printR a).length + 1 + 1) := by
    rw [hf, partsP_step (j := 9) (s := anyS) (by rw [s2, k2]; decide) (by rw [s2]; exact hcls), s2, k2, opOf_set, op_first any_right]
    simp only [ne_eq, not_true_eq_false, if_false]
    rw [partsP_step (j := 10 + 1 + 0 + (printR a).length) (s := a) (by rw [s9, p1]; decide) (by rw [s9]; exact p2), s9, p1, show opOf 45 = 45 by decide, if_neg (by rw [ho]; decide), partsP_end (by rw [s11]; exact k12), s11]
  unfold readP
  rw [if_neg (by omega), s0, setP', needP_at k1]
  simp only
  rw [if_neg (by rw [k2]; decide), hparts]
  simp only
  rw [if_neg (by rw [k2]; decide)]
  simp only
  rw [s13, if_neg (by omega), any_minus ha]

/-! ### The same as texts -/
def txt (l : List Int) : ByteArray := ⟨(bytesOf l).toArray⟩
theorem txt_app (l m : List Int) : txt l ++ txt m = txt (l ++ m) := by
  unfold txt
  rw [bytesOf_app]
  apply ByteArray.ext
  rw [ByteArray.data_append]
  simp
theorem txt_size (l : List Int) : (txt l).size = (bytesOf l).length := by unfold txt; rw [size_of]
theorem txt_print {a : Spans} (ha : RightSet a) : (printP a).1 = txt (printR a) := by
  unfold printP txt
  rw [if_pos (wrong_of ha), print_bytes a ha.each]
theorem txt_runes {l : List Int} (h : l.all rightB = true) : runesOf (txt l) 0 = l := (turn_runes l h).1
theorem text_u {a b : Spans} (ha : RightSet a) (hb : RightSet b) (la : a.length ≤ 50) (lb : b.length ≤ 50) : readP (runesOf (txt (signU a b)) 0) = ((opP 124 a b).1, (0, 0)) := by
  rw [txt_runes (by unfold signU; rw [List.all_cons, List.all_append, List.all_append, printR_right a ha.each, printR_right b hb.each]; decide), sign_u ha hb la lb]
theorem text_m {a b : Spans} (ha : RightSet a) (hb : RightSet b) (la : a.length ≤ 50) (lb : b.length ≤ 50) : readP (runesOf (txt (signM a b)) 0) = ((opP 38 a b).1, (0, 0)) := by
  rw [txt_runes (by unfold signM; rw [List.all_cons, List.all_append, List.all_cons, List.all_append, printR_right a ha.each, printR_right b hb.each]; decide), sign_m ha hb la lb]
theorem text_d {a b : Spans} (ha : RightSet a) (hb : RightSet b) (la : a.length ≤ 50) (lb : b.length ≤ 50) : readP (runesOf (txt (signD a b)) 0) = ((opP 45 a b).1, (0, 0)) := by
  rw [txt_runes (by unfold signD; rw [List.all_cons, List.all_append, List.all_cons, List.all_cons, List.all_cons, List.all_append, printR_right a ha.each, printR_right b hb.each]; decide), sign_d ha hb la lb]
theorem text_n {a : Spans} (ha : RightSet a) (la : a.length ≤ 50) : readP (runesOf (txt (signN a)) 0) = ((opP 94 a []).1, (0, 0)) := by
  rw [txt_runes (by unfold signN; rw [List.all_cons, List.all_cons, List.all_append, printR_right a ha.each]; decide), sign_n ha la]
theorem text_a {a : Spans} (ha : RightSet a) (la : a.length ≤ 50) : readP (runesOf (txt (signA a)) 0) = ((opP 94 a []).1, (0, 0)) := by
  rw [txt_runes (by unfold signA; simp only [List.all_cons, List.all_append]; rw [printR_right a ha.each]; decide), sign_a ha la]
theorem txt_ascii (l : List UInt8) (h : ∀ b ∈ l, b.toNat < 128) : (⟨l.toArray⟩ : ByteArray) = txt (l.map fun b => (b.toNat : Int)) := by unfold txt; rw [bytesOf_low l h]
theorem whole_u (x y : List Int) : ((({ data := #[91] } : ByteArray) ++ txt x) ++ txt y) ++ { data := #[93] } = txt (91 :: (x ++ (y ++ [93]))) := by
  rw [show ({ data := #[91] } : ByteArray) = txt [91] from txt_ascii [91] (by decide), show ({ data := #[93] } : ByteArray) = txt [93] from txt_ascii [93] (by decide), txt_app, txt_app, txt_app]
  simp
theorem whole_m (x y : List Int) : (((({ data := #[91] } : ByteArray) ++ txt x) ++ { data := #[38] }) ++ txt y) ++ { data := #[93] } = txt (91 :: (x ++ (38 :: (y ++ [93])))) := by
  rw [show ({ data := #[91] } : ByteArray) = txt [91] from txt_ascii [91] (by decide), show ({ data := #[93] } : ByteArray) = txt [93] from txt_ascii [93] (by decide), show ({ data := #[38] } : ByteArray) = txt [38] from txt_ascii [38] (by decide), txt_app, txt_app, txt_app, txt_app]
  simp
theorem whole_d (x y : List Int) : (((({ data := #[91] } : ByteArray) ++ txt x) ++ { data := #[32, 45, 32] }) ++ txt y) ++ { data := #[93] } = txt (91 :: (x ++ (32 :: 45 :: 32 :: (y ++ [93])))) := by
  rw [show ({ data := #[91] } : ByteArray) = txt [91] from txt_ascii [91] (by decide), show ({ data := #[93] } : ByteArray) = txt [93] from txt_ascii [93] (by decide), show ({ data := #[32, 45, 32] } : ByteArray) = txt [32, 45, 32] from txt_ascii [32, 45, 32] (by decide), txt_app, txt_app, txt_app, txt_app]
  simp
theorem whole_n (x : List Int) : (({ data := #[91, 94] } : ByteArray) ++ txt x) ++ { data := #[93] } = txt (91 :: 94 :: (x ++ [93])) := by
  rw [show ({ data := #[91, 94] } : ByteArray) = txt [91, 94] from txt_ascii [91, 94] (by decide), show ({ data := #[93] } : ByteArray) = txt [93] from txt_ascii [93] (by decide), txt_app, txt_app]
  simp
theorem whole_a (x : List Int) : (({ data := #[32, 91, 91, 58, 97, 110, 121, 58, 93, 32, 45] } : ByteArray) ++ txt x) ++ { data := #[32, 93, 32] } = txt (32 :: 91 :: 91 :: 58 :: 97 :: 110 :: 121 :: 58 :: 93 :: 32 :: 45 :: (x ++ [32, 93, 32])) := by
  rw [show ({ data := #[32, 91, 91, 58, 97, 110, 121, 58, 93, 32, 45] } : ByteArray) = txt [32, 91, 91, 58, 97, 110, 121, 58, 93, 32, 45] from txt_ascii [32, 91, 91, 58, 97, 110, 121, 58, 93, 32, 45] (by decide), show ({ data := #[32, 93, 32] } : ByteArray) = txt [32, 93, 32] from txt_ascii [32, 93, 32] (by decide), txt_app, txt_app]
  simp

end Go.Proofs.YthnhbcohfoodlaaGreatDoor
