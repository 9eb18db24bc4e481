/- Words of a text, plain: wordsP cuts where letters begin or end; titleP; eachP. -/
import Derived.Test.YtfmebbnccjaadaaRefGo
import Derived.Test.YtfmebbnccjaadaaCase
namespace Go.Proofs.Ytfmebbnccjaadaa
open Go.RowKit

structure WordD where
  src : Nat
  upto : Nat
  inn : Bool
def wordCells (l : List WordD) : List Value := l.flatMap fun k => [.int .i64 k.src, .int .i64 k.upto, .bool k.inn]
theorem wordCells_length (l : List WordD) : (wordCells l).length = l.length * 3 := by
  induction l with
  | nil => rfl
  | cons x l ih => simp only [wordCells, List.flatMap_cons] at ih ⊢; simp [ih]; omega
theorem wordCells_append (a b : List WordD) : wordCells (a ++ b) = wordCells a ++ wordCells b := by simp [wordCells]
theorem word_get {l : List WordD} {k : Nat} {x : WordD} (h : l[k]? = some x) : (wordCells l)[k * 3]? = some (.int .i64 x.src) ∧ (wordCells l)[k * 3 + 1]? = some (.int .i64 x.upto) ∧ (wordCells l)[k * 3 + 2]? = some (.bool x.inn) := by
  induction l generalizing k with
  | nil => simp at h
  | cons z l ih =>
    cases k with
    | zero => simp at h; subst h; exact ⟨by simp [wordCells], by simp [wordCells], by simp [wordCells]⟩
    | succ k =>
      have := ih (k := k) (by simpa using h)
      simp only [wordCells, List.flatMap_cons] at this ⊢
      have e1 : (k + 1) * 3 = k * 3 + 1 + 1 + 1 := by omega
      rw [e1]
      simpa using this
/-- The words from an open one on: it began at s, it holds the runes before i, letters or not. -/
def runW (s i : Nat) (b : Bool) : List Bool → List WordD
  | [] => [⟨s, i, b⟩]
  | c :: bs => if c = b then runW s (i + 1) b bs else ⟨s, i, b⟩ :: runW i (i + 1) c bs
def wordsP : List Bool → List WordD
  | [] => []
  | b :: bs => runW 0 1 b bs
theorem runW_same {s i : Nat} {b c : Bool} {bs : List Bool} (h : c = b) : runW s i b (c :: bs) = runW s (i + 1) b bs := by rw [runW, if_pos h]
theorem runW_new {s i : Nat} {b c : Bool} {bs : List Bool} (h : c ≠ b) : runW s i b (c :: bs) = ⟨s, i, b⟩ :: runW i (i + 1) c bs := by rw [runW, if_neg h]
theorem runW_len : ∀ (bs : List Bool) (s i : Nat) (b : Bool), (runW s i b bs).length ≤ bs.length + 1 := by
  intro bs
  induction bs with
  | nil => intro s i b; simp [runW]
  | cons c bs ih =>
    intro s i b
    by_cases h : c = b
    · rw [runW_same h]; have := ih s (i + 1) b; simp only [List.length_cons]; omega
    · rw [runW_new h]; have := ih i (i + 1) c; simp only [List.length_cons]; omega
theorem wordsP_len (bs : List Bool) : (wordsP bs).length ≤ bs.length := by
  cases bs with
  | nil => exact Nat.le_refl _
  | cons b bs => exact runW_len bs 0 1 b
/-- What a cut of a text is. -/
def splitP (s : Spans) (t : List Int) : List WordD × Int := if wrongP s ≠ 0 then ([], wrongP s) else if textP t ≠ 0 then ([], textP t) else (wordsP (t.map (hasP s)), 0)
/-- Great letters first: prev tells whether a letter stands ahead. -/
def tgo (h : Int → Bool) : Bool → List Int → List Int
  | _, [] => []
  | prev, r :: t => (if h r then (if prev then lowP r else upP r) else r) :: tgo h (h r) t
def titleP (s : Spans) (t : List Int) : List Int × Int := if (splitP s t).2 ≠ 0 then ([], (splitP s t).2) else (tgo (hasP s) false t, 0)
/-- Words stand one behind the other from a on, and end at n; h tells what each is. -/
def goodW (h : Int → Bool) (t : List Int) : Nat → Option Bool → List WordD → Prop
  | a, _, [] => a = t.length
  | a, prev, w :: ws => w.src = a ∧ a < w.upto ∧ w.upto ≤ t.length ∧ prev ≠ some w.inn ∧ (∀ i, a ≤ i → i < w.upto → (t[i]?).map h = some w.inn) ∧ goodW h t w.upto (some w.inn) ws
theorem runW_good (h : Int → Bool) (t : List Int) : ∀ (m : Nat) (s i : Nat) (b : Bool) (prev : Option Bool), i + m = t.length → s < i → prev ≠ some b → (∀ j, s ≤ j → j < i → (t[j]?).map h = some b) → goodW h t s prev (runW s i b ((t.drop i).map h)) := by
  intro m
  induction m with
  | zero =>
    intro s i b prev hm hsi hp hall
    rw [List.drop_of_length_le (by omega)]
    exact ⟨rfl, hsi, by show i ≤ t.length; omega, hp, hall, by show i = t.length; omega⟩
  | succ m ih =>
    intro s i b prev hm hsi hp hall
    have hi : i < t.length := by omega
    rw [List.drop_eq_getElem_cons hi, List.map_cons]
    by_cases hc : h t[i] = b
    · rw [runW_same hc]
      refine ih s (i + 1) b prev (by omega) (by omega) hp (fun j h1 h2 => ?_)
      rcases Nat.lt_or_ge j i with hj | hj
      · exact hall j h1 hj
      · obtain rfl : j = i := by omega
        rw [List.getElem?_eq_getElem hi]
        simp [hc]
    · rw [runW_new hc]
      refine ⟨rfl, hsi, by show i ≤ t.length; omega, hp, hall, ?_⟩
      refine ih i (i + 1) _ _ (by omega) (by omega) (by simp; exact fun e => hc e.symm) (fun j h1 h2 => ?_)
      obtain rfl : j = i := by omega
      rw [List.getElem?_eq_getElem hi]
      rfl
theorem words_good (h : Int → Bool) (t : List Int) : goodW h t 0 none (wordsP (t.map h)) := by
  cases t with
  | nil => rfl
  | cons r t =>
    have := runW_good h (r :: t) t.length 0 1 (h r) none (by simp; omega) (by omega) (by simp) (fun j h1 h2 => by
      obtain rfl : j = 0 := by omega
      rfl)
    simpa [wordsP] using this
theorem goodW_drop (h : Int → Bool) (t : List Int) : ∀ (ws : List WordD) (a : Nat) (prev : Option Bool) (k : Nat) (w : WordD), goodW h t a prev ws → ws[k]? = some w → ∃ (a' : Nat) (prev' : Option Bool), goodW h t a' prev' (ws.drop k) ∧ (k = 0 → a' = a ∧ prev' = prev) := by
  intro ws
  induction ws with
  | nil => intro a prev k w _ hk; simp at hk
  | cons x ws ih =>
    intro a prev k w hg hk
    cases k with
    | zero => exact ⟨a, prev, hg, fun _ => ⟨rfl, rfl⟩⟩
    | succ k =>
      obtain ⟨a', prev', h1, _⟩ := ih _ _ k w hg.2.2.2.2.2 (by simpa using hk)
      exact ⟨a', prev', by simpa using h1, fun e => absurd e (Nat.succ_ne_zero k)⟩
def eachGo (s : ScriptD) (t : List Int) : List WordD → List Int → List Int × (Int × Int)
  | [], out => (out, (0, 0))
  | w :: ws, out =>
    if w.inn then (if (goI s ((t.drop w.src).take (w.upto - w.src))).2.1 ≠ 0 then ([], (goI s ((t.drop w.src).take (w.upto - w.src))).2) else eachGo s t ws (out ++ (goI s ((t.drop w.src).take (w.upto - w.src))).1))
    else eachGo s t ws (out ++ (t.drop w.src).take (w.upto - w.src))
def eachP (ls : Spans) (s : ScriptD) (t : List Int) : List Int × (Int × Int) :=
  if (scriptW s).1 ≠ 0 then ([], scriptW s) else if (splitP ls t).2 ≠ 0 then ([], ((splitP ls t).2, 0))
  else if (eachGo s t (splitP ls t).1 []).2.1 ≠ 0 then ([], (eachGo s t (splitP ls t).1 []).2)
  else if 4000 < (eachGo s t (splitP ls t).1 []).1.length then ([], (4, (s.passes.length : Int))) else ((eachGo s t (splitP ls t).1 []).1, (0, 0))

end Go.Proofs.Ytfmebbnccjaadaa
