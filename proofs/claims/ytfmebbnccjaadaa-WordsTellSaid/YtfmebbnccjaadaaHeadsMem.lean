/- Heads in memory: a row that the call is building, its rules in rows of numbers. -/
import Derived.Test.YtfmebbnccjaadaaHeads
import Derived.Test.YtfmebbnccjaadaaSameI
namespace Go.Proofs.Ytfmebbnccjaadaa
open Go.RowKit

/-- A row of heads under construction, all from block lo on. -/
def HeadsO (lo : Nat) (w : World) (v : Value) (hs : List HeadD) : Prop := OwnL (HeadC w (IntB lo w)) 87 3 w lo v hs
theorem IntB.keeps {lo : Nat} {w w' : World} (h : ∀ b, IntB lo w b → b < w.heap.size → w'.heap[b]? = w.heap[b]?) (hs : w.heap.size ≤ w'.heap.size) : Keeps w (IntB lo w) w' (IntB lo w') := by
  intro b hb hl
  have he := h b hb hl
  refine ⟨he, ⟨hb.1, ?_⟩, Nat.lt_of_lt_of_le hl hs⟩
  obtain ⟨cs, fz, hc⟩ := hb.2
  exact ⟨cs, fz, he.trans hc⟩
theorem IntB.below {lo : Nat} {w w' : World} (hb : Below w.heap.size w w') : Keeps w (IntB lo w) w' (IntB lo w') := IntB.keeps (fun b _ hl => hb.block b hl) hb.size
theorem HeadsO.nil (lo : Nat) (w : World) : HeadsO lo w (.slice none 0 0) [] := OwnL.nil _ _
theorem HeadsO.below {lo : Nat} {w w' : World} {v : Value} {hs : List HeadD} (h : HeadsO lo w v hs) (hb : Below w.heap.size w w') : HeadsO lo w' v hs :=
  OwnL.kept (fun _ _ ho => own_below ho hb) (fun _ _ => HeadC.keep (IntB.below hb)) h
theorem HeadsO.form {lo : Nat} {w : World} {v : Value} {hs : List HeadD} (h : HeadsO lo w v hs) : ∃ A c, v = .slice A hs.length c ∧ hs.length ≤ c := OwnL.form h
theorem head_ne_int : (87 : TypeId) ≠ 3 := by decide
theorem IntB.ne {lo : Nat} {w : World} {v : Value} {n : Nat} {xs : List Value} (h : w.ownsRow lo 87 3 v n xs) {b : Nat} (hb : IntB lo w b) : v.ownBlock ≠ some b := by
  obtain ⟨cs, fz, hc⟩ := hb.2
  rcases h.2 with ⟨rfl, _⟩ | ⟨g, cap, cur, rfl, _, hg, _⟩
  · simp [Value.ownBlock]
  · simp only [Value.ownBlock, ne_eq, Option.some.injEq]
    rintro rfl
    rw [hc] at hg
    injection hg with hg
    injection hg with _ ht
    exact head_ne_int ht.symm
theorem IntsV.form {w : World} {X : Nat → Prop} {l : List Int} {u : Value} (h : IntsV w X l u) : ∃ A c, u = .slice A l.length c ∧ RdI w w.heap.size A l.length l ∧ RdX w X 1 A l.length (intCells l) ∧ l.length ≤ maxLen := by
  obtain ⟨A, n, c, rfl, h1, h2⟩ := h
  obtain rfl : l.length = n := (IntsV.len ⟨A, n, c, rfl, h1, h2⟩).1
  exact ⟨A, c, rfl, h1.of, h1, h2⟩
/-- A head that is appended: what has been laid for it. -/
theorem HeadsO.push {lo n : Nat} {w w' : World} {v v' : Value} {hs : List HeadD} {css : List (List Value)} {low high : Int} {b : List Int} {u : Value}
    (h1 : css.length = hs.length) (h2 : ∀ (i : Nat) (a : HeadD) (cs : List Value), hs[i]? = some a → css[i]? = some cs → HeadC w (IntB lo w) a cs) (h3 : ∀ cs ∈ css, cs.length = 3)
    (h4 : w.ownsRow lo 87 3 v hs.length css.flatten) (hu : IntsV w (IntB lo w) b u) (hlo : lo ≤ w.heap.size) (hn : n = hs.length + 1)
    (happ : Appended lo 87 3 v w n (css.flatten ++ [.int .i32 low, .int .i32 high, u]) v' w') : HeadsO lo w' v' (hs ++ [⟨low, high, b⟩]) ∧ Below lo w w' := by
  subst hn
  have hk : Keeps w (IntB lo w) w' (IntB lo w') := IntB.keeps (fun x hx hl => happ.2.1.block x hl (fun e => IntB.ne h4 hx e.symm)) happ.2.1.size
  exact ⟨OwnL.push h1 h2 h3 (fun _ _ => HeadC.keep hk) ⟨u, rfl, hu.keep hk⟩ rfl happ, happ.below hlo h4⟩
/-- What append asks of a head that has been laid, and what it leaves. -/
theorem HeadsO.ready {lo : Nat} {w : World} {v : Value} {hs : List HeadD} (h : HeadsO lo w v hs) {b : List Int} {u : Value} {lo' : Nat} (hu : IntsV w (IntB lo' w) b u) (hlo : lo ≤ w.heap.size) (hlo' : lo ≤ lo') (low high : Int) :
    ∃ xs : List Value, (w.alloc (.cells #[.int .i32 low, .int .i32 high, u] 87)).ownsRow lo 87 3 v hs.length xs ∧
      ∀ v' w' n, n = hs.length + 1 → Appended lo 87 3 v (w.alloc (.cells #[.int .i32 low, .int .i32 high, u] 87)) n (xs ++ [.int .i32 low, .int .i32 high, u]) v' w' → HeadsO lo w' v' (hs ++ [⟨low, high, b⟩]) ∧ Below lo w w' := by
  obtain ⟨css, h1, h2, h3, h4⟩ := h
  have hbl := (Below.refl w.heap.size w).alloc (Nat.le_refl _) (.cells #[.int .i32 low, .int .i32 high, u] 87)
  refine ⟨css.flatten, World.ownsRow.alloc h4 _, fun v' w' n hn happ => ?_⟩
  have hu2 : IntsV (w.alloc (.cells #[.int .i32 low, .int .i32 high, u] 87)) (IntB lo (w.alloc (.cells #[.int .i32 low, .int .i32 high, u] 87))) b u :=
    (hu.keep (Keeps.refl (X' := IntB lo w) (fun _ h => ⟨Nat.le_trans hlo' h.1, h.2⟩))).keep (IntB.below hbl)
  have := HeadsO.push h1 (fun i a cs ha hc => HeadC.keep (IntB.below hbl) (h2 i a cs ha hc)) h3 (World.ownsRow.alloc h4 _) hu2 (by simp; omega) hn happ
  exact ⟨this.1, (hbl.mono hlo).trans this.2⟩
theorem flat3_set {css : List (List Value)} (h : ∀ cs ∈ css, cs.length = 3) (a b c b' : Value) : (css ++ [[a, b, c]]).flatten.set (css.length * 3 + 1) b' = (css ++ [[a, b', c]]).flatten := by
  have hl : css.flatten.length = css.length * 3 := by
    clear a b c b'
    induction css with
    | nil => rfl
    | cons x css ih =>
      have := h x (by simp)
      have := ih (fun y hy => h y (by simp [hy]))
      rw [List.flatten_cons, List.length_append, List.length_cons]
      omega
  rw [List.flatten_append, List.flatten_append, ← hl, List.set_append_right _ _ (by omega), show css.flatten.length + 1 - css.flatten.length = 1 by omega]
  rfl
/-- The last head's end is set. -/
theorem HeadsO.setHigh {lo g n c : Nat} {w : World} {i : List HeadD} {x : HeadD} (h : HeadsO lo w (.slice (some ⟨g, 0, none⟩) n c) (i ++ [x])) (y : Int) :
    HeadsO lo (w.setCell ⟨g, i.length * 3 + 1, none⟩ (.int .i32 y)) (.slice (some ⟨g, 0, none⟩) n c) (i ++ [{ x with high := y }]) ∧ Below lo w (w.setCell ⟨g, i.length * 3 + 1, none⟩ (.int .i32 y)) := by
  obtain ⟨css, h1, h2, h3, h4⟩ := h
  obtain ⟨A', c', e, _⟩ := own_form h4
  cases e
  have hlo : lo ≤ g := (own_lt h4 rfl).1
  refine ⟨?_, (Below.refl _ _).setCell hlo _⟩
  rcases List.eq_nil_or_concat css with rfl | ⟨cs, z, rfl⟩
  · simp at h1
  · rw [List.concat_eq_append] at h1 h2 h3 h4
    have hcl : cs.length = i.length := by simpa using h1
    obtain ⟨u, rfl, hu⟩ := h2 i.length x z (by simp) (by rw [← hcl]; simp)
    have hst := h4.stored (i.length * 3 + 1) (.int .i32 y)
    rw [← hcl, flat3_set (fun q hq => h3 q (by simp [hq]))] at hst
    rw [← hcl]
    have hk : Keeps w (IntB lo w) (w.setCell ⟨g, cs.length * 3 + 1, none⟩ (.int .i32 y)) (IntB lo (w.setCell ⟨g, cs.length * 3 + 1, none⟩ (.int .i32 y))) :=
      IntB.keeps (fun b hb hl => hst.2.block b hl (fun e => IntB.ne h4 hb e.symm)) (by simp)
    refine ⟨cs ++ [[.int .i32 x.low, .int .i32 y, u]], by simp [hcl], ?_, ?_, ?_⟩
    · intro k a ks ha hks
      rcases Nat.lt_or_ge k i.length with hlt | hge
      · rw [List.getElem?_append_left hlt] at ha
        rw [List.getElem?_append_left (by omega)] at hks
        exact HeadC.keep hk (h2 k a ks (by rw [List.getElem?_append_left hlt]; exact ha) (by rw [List.getElem?_append_left (by omega)]; exact hks))
      · rw [List.getElem?_append_right hge] at ha
        rw [List.getElem?_append_right (by omega), hcl] at hks
        have hk0 : k - i.length = 0 := by
          have := (List.getElem?_eq_some_iff.1 ha).1
          simp at this
          omega
        rw [hk0] at ha hks
        simp at ha hks
        subst ha hks
        exact ⟨u, rfl, hu.keep hk⟩
    · intro ks hks
      rcases List.mem_append.1 hks with hks | hks
      · exact h3 ks (by simp [hks])
      · simp at hks; subst hks; rfl
    · have := hst.1
      simpa using this
/-- The last head's rules. -/
theorem HeadsO.last {lo : Nat} {w : World} {v : Value} {i : List HeadD} {x : HeadD} (h : HeadsO lo w v (i ++ [x])) :
    ∃ (g c : Nat) (A' : Option Addr) (c' : Nat), v = .slice (some ⟨g, 0, none⟩) (i.length + 1) c ∧ i.length + 1 ≤ c ∧ lo ≤ g ∧ g < w.heap.size ∧
      w.cell? ⟨g, i.length * 3 + 1, none⟩ = some (.int .i32 x.high) ∧ w.frozen? ⟨g, i.length * 3 + 1, none⟩ = false ∧ w.cell? ⟨g, i.length * 3 + 2, none⟩ = some (.slice A' x.rules.length c') ∧ RdI w w.heap.size A' x.rules.length x.rules ∧ x.rules.length ≤ maxLen := by
  obtain ⟨css, h1, h2, h3, h4⟩ := h
  have hlen : (i ++ [x]).length = i.length + 1 := by simp
  rw [hlen] at h4 h1
  obtain ⟨g, c, rfl, hc, hg, hgl⟩ := own_some h4 (by omega)
  obtain ⟨cs, hcs⟩ : ∃ cs, css[i.length]? = some cs := ⟨_, List.getElem?_eq_getElem (by omega)⟩
  obtain ⟨u, rfl, hu⟩ := h2 i.length x cs (by simp) hcs
  obtain ⟨A', c', rfl, hr, _, hrl⟩ := hu.form
  refine ⟨g, c, A', c', rfl, hc, hg, hgl, ?_, h4.frozenAt _, ?_, hr, hrl⟩
  · rw [h4.cellAt _ (by omega)]
    exact flatten_get h3 _ _ hcs 1 _ rfl
  · rw [h4.cellAt _ (by omega)]
    exact flatten_get h3 _ _ hcs 2 _ rfl
theorem HeadsO.done {lo : Nat} {w : World} {v : Value} {hs : List HeadD} (h : HeadsO lo w v hs) (hl : hs.length ≤ maxLen) : HeadsV w (fun b => lo ≤ b) hs v := by
  obtain ⟨A, c, rfl, _⟩ := h.form
  refine ⟨A, _, c, rfl, ?_, hl⟩
  obtain ⟨css, h1, h2, h3, h4⟩ := h
  exact ⟨css, rfl, h1, fun i a cs ha hc => HeadC.keep (Keeps.refl (fun _ h => h.1)) (h2 i a cs ha hc), h3, RdX.of_own h4 (fun b hb => (own_lt h4 hb).1)⟩
theorem HeadsV.form {w : World} {X : Nat → Prop} {hs : List HeadD} {u : Value} (h : HeadsV w X hs u) : ∃ A c, u = .slice A hs.length c ∧ ListX (HeadC w X) w X 3 A hs.length hs ∧ hs.length ≤ maxLen := by
  obtain ⟨A, n, c, rfl, h1, h2⟩ := h
  obtain rfl : hs.length = n := h1.len
  exact ⟨A, c, rfl, h1, h2⟩
/-- One head of a list. -/
theorem head_at {w : World} {X : Nat → Prop} {A : Option Addr} {n : Nat} {l : List HeadD} (h : ListX (HeadC w X) w X 3 A n l) {k : Nat} {x : HeadD} (hk : l[k]? = some x) :
    ∃ (b off : Nat) (A' : Option Addr) (c' : Nat), A = some ⟨b, off, none⟩ ∧ X b ∧ b < w.heap.size ∧ w.cell? ⟨b, off + k * 3, none⟩ = some (.int .i32 x.low) ∧ w.cell? ⟨b, off + k * 3 + 1, none⟩ = some (.int .i32 x.high) ∧
      w.cell? ⟨b, off + k * 3 + 2, none⟩ = some (.slice A' x.rules.length c') ∧ RdI w w.heap.size A' x.rules.length x.rules ∧ RdX w X 1 A' x.rules.length (intCells x.rules) ∧ x.rules.length ≤ maxLen := by
  obtain ⟨b, off, cs, e, hx, hb, ⟨u, rfl, hu⟩, _, hc⟩ := h.at hk
  obtain ⟨A', c', rfl, h1, h2, h3⟩ := hu.form
  exact ⟨b, off, A', c', e, hx, hb, hc 0 _ rfl, hc 1 _ rfl, hc 2 _ rfl, h1, h2, h3⟩

theorem infoHead : (Try.prog.info? 87).map (fun i => (i.zero, i.size, i.bytes)) = some (some (.agg #[.int .i32 0, .int .i32 0, .slice none 0 0]), 3, 32) := by kernel_rfl

end Go.Proofs.Ytfmebbnccjaadaa
