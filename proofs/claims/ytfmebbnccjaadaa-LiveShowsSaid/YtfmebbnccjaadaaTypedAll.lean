/- strike: what a key makes of what was typed. The walk of live.strike: of a list that the caller owns, and any key, it returns what strikeP tells, owned too. -/
import Derived.Test.YtfmebbnccjaadaaRows
import Derived.Test.YtfmebbnccjaadaaRight
import Derived.Test.YtfmebbnccjaadaaKinds
import Derived.Deep.DeepCutAuto
import Derived.Deep.CutBlock
namespace Go.Proofs.Ytfmebbnccjaadaa
open Go.RowKit

/-- What a key makes of a list, and the error. -/
def strikeP (l : List Int) (kind r : Int) : List Int × Int :=
  if kind = 1 then (if rightB r = false then ([], 3) else if l.length = 4000 then ([], 4) else (l ++ [r], 0))
  else if kind = 2 then (if l = [] then ([], 6) else (l.dropLast, 0))
  else if kind = 3 then ([], 0) else ([], 1)

theorem OwnR.pop {w : World} {base : Nat} {g c n : Nat} {l : List Int} (hl : l.length = n + 1) (h : OwnR w base (.slice (some ⟨g, 0, none⟩) (n + 1) c) l) : OwnR w base (.slice (some ⟨g, 0, none⟩) n c) l.dropLast := by
  have hne : l ≠ [] := by intro e; subst e; simp at hl
  have hd : l.dropLast.length = n := by simp [hl]
  unfold OwnR at h ⊢
  rw [hd]
  rw [hl] at h
  refine ownsRow_pop (last := [.int .i32 (l.getLast hne)]) (by simp [runeCells, hl]) ?_
  have e : runeCells l.dropLast ++ [Value.int .i32 (l.getLast hne)] = runeCells l := by
    have e2 := congrArg runeCells (List.dropLast_concat_getLast hne)
    rw [← e2]
    simp only [runeCells, List.map_append, List.map_cons, List.map_nil]
  rw [e]
  exact h

/-- Only the row that was handed in may have been written. -/
def StrikePost (base : Nat) (v : Value) (w : World) (p : List Int × Int) (e : Ending) (w' : World) : Prop :=
  ∃ v', e = .returned (.tuple #[v', .int .i64 p.2]) ∧ OwnR w' base v' p.1 ∧ w.grownBy w' v.ownBlock ∧ (v'.ownBlock = none ∨ v'.ownBlock = v.ownBlock ∨ ∃ g, v'.ownBlock = some g ∧ w.heap.size ≤ g)
theorem grown_of_below {w w' : World} (row : Option Nat) (hb : Below w.heap.size w w') : w.grownBy w' row := ⟨hb.os, hb.tape, hb.output, hb.size, fun k hk _ => hb.block k hk⟩

theorem hidP {a b : List Int × Int} (h : a = b) : Hid (a = b) := h

set_option maxRecDepth 100000 in
set_option maxHeartbeats 800000 in
theorem strike_any (kind r : Int) (v : Value) (l : List Int) (base : Nat) (w : World) (hb : base ≤ w.heap.size) (hown : OwnR w base v l) (hl : l.length ≤ 4000) :
    Calls Try.prog 65 #[v, .agg #[.int .i64 kind, .int .i32 r]] w (StrikePost base v w (strikeP l kind r)) := by
  obtain ⟨i0, hi, hz0, hz1, hz2⟩ := info_parts Try.info21
  obtain ⟨A, c, rfl, hc⟩ := own_form hown
  by_cases h1 : kind = 1
  · subst h1
    cases hr : rightB r
    · have HP := hidP (show strikeP l 1 r = ([], 3) by simp [strikeP, hr])
      go_enter Try.func65, Try.ntmps65
      go_wp2_with (go_at_call 84; refine (runes_right _ _).mono ?_; rintro e w' ⟨rfl, rfl⟩)
      go_ret2
      rw [HP.out]
      exact ⟨_, rfl, OwnR.nil _ _, grown_of_below _ ((Below.refl _ _).alloc (Nat.le_refl _) _), .inl rfl⟩
    · by_cases h4 : l.length = 4000
      · have HP := hidP (show strikeP l 1 r = ([], 4) by simp [strikeP, hr, h4])
        have hn4 : ((l.length : Int) == 4000) = true := by rw [beq_iff_eq]; omega
        clear h4
        go_enter Try.func65, Try.ntmps65
        go_wp2_with (go_at_call 84; refine (runes_right _ _).mono ?_; rintro e w' ⟨rfl, rfl⟩)
        go_ret2
        rw [HP.out]
        exact ⟨_, rfl, OwnR.nil _ _, grown_of_below _ ((Below.refl _ _).alloc (Nat.le_refl _) _), .inl rfl⟩
      · have HP := hidP (show strikeP l 1 r = (l ++ [r], 0) by simp [strikeP, hr, h4])
        have hn4 : ((l.length : Int) == 4000) = false := by rw [beq_eq_false_iff_ne]; omega
        clear h4
        have HN := Lib.hid (show Rd ((w.alloc (.cells #[.int .i64 1, .int .i32 r] 116)).alloc (.cells #[.int .i32 r] 21)) (w.heap.size + 1 + 1) 1 (some ⟨w.heap.size + 1, 0, none⟩) 1 [.int .i32 r] by
          have := Rd.new (w.alloc (.cells #[.int .i64 1, .int .i32 r] 116)) 21 1 1 [.int .i32 r] rfl
          simpa using this)
        have HO := Lib.hid (World.ownsRow.alloc (World.ownsRow.alloc hown (.cells #[.int .i64 1, .int .i32 r] 116)) (.cells #[.int .i32 r] 21))
        have HRR := Lib.hid hr
        clear hr
        go_enter Try.func65, Try.ntmps65
        go_wp2_with fail
        refine (runes_right _ _).mono ?_
        rintro e w' ⟨rfl, rfl⟩
        rw [HRR.out]
        clear HRR
        go_wp2_with (at_builtin; refine wpList_append_rd _ rfl (.tmp 19) (.tmp 22) 23 rfl base 21 i0 _ 1 4 Try.underlying23 hi hz0 hz1 hz2 rfl (by decide) _ l.length _ rfl HO.out _ (some ⟨w.heap.size + 1, 0, none⟩) 1 1 (runeCells [r]) rfl HN.out (runeCells_one _) (by simp only [maxLen]; omega) (by omega) (by simp; omega) ?_)
        intro v' w1 happ
        have HA := Lib.hid happ
        clear happ
        go_wp2_with fail
        go_ret2
        rw [HP.out]
        refine ⟨_, rfl, ?_, ?_, ?_⟩
        · have := HA.out.own
          unfold OwnR
          rw [runeCells_append, List.length_append]
          exact this
        · exact (grown_of_below _ (((Below.refl _ _).alloc (Nat.le_refl _) _).alloc (by simp) _)).trans HA.out.2.1
        · rcases HA.out.2.2 with e | e
          · exact .inr (.inl e)
          · exact .inr (.inr ⟨_, e, by simp; omega⟩)
  · have h1b : (kind == 1) = false := by rw [beq_eq_false_iff_ne]; exact h1
    by_cases h2 : kind = 2
    · subst h2
      cases l with
      | nil =>
        have HP := hidP (show strikeP [] 2 r = ([], 6) by simp [strikeP])
        go_enter Try.func65, Try.ntmps65
        go_wp2
        go_ret2
        rw [HP.out]
        exact ⟨_, rfl, OwnR.nil _ _, grown_of_below _ ((Below.refl _ _).alloc (Nat.le_refl _) _), .inl rfl⟩
      | cons x l =>
        have HP := hidP (show strikeP (x :: l) 2 r = ((x :: l).dropLast, 0) by simp [strikeP])
        obtain ⟨g, c', hv, hc', hbg, hgw⟩ := own_some hown (by simp)
        obtain ⟨n, hn⟩ : ∃ n, (x :: l).length = n + 1 := ⟨_, rfl⟩
        injection hv with hA hn' hcc
        subst hA
        subst hcc
        have hp := OwnR.pop (n := n) hn (by rw [← hn]; exact hown)
        rw [hn] at hown hl hc ⊢
        generalize (x :: l).dropLast = ll at *
        generalize x :: l = lx at *
        have HN := Lib.hid hn
        clear hn hn'
        have hn0 : (((n : Int) + 1) == 0) = false := by rw [beq_eq_false_iff_ne]; omega
        go_enter Try.func65, Try.ntmps65
        go_wp2
        go_ret2
        rw [HP.out]
        exact ⟨_, rfl, World.ownsRow.alloc hp _, grown_of_below _ ((Below.refl _ _).alloc (Nat.le_refl _) _), .inr (.inl rfl)⟩
    · have h2b : (kind == 2) = false := by rw [beq_eq_false_iff_ne]; exact h2
      by_cases h3 : kind = 3
      · subst h3
        have HP := hidP (show strikeP l 3 r = ([], 0) by simp [strikeP])
        go_enter Try.func65, Try.ntmps65
        go_wp2
        go_ret2
        rw [HP.out]
        exact ⟨_, rfl, OwnR.nil _ _, grown_of_below _ ((Below.refl _ _).alloc (Nat.le_refl _) _), .inl rfl⟩
      · have HP := hidP (show strikeP l kind r = ([], 1) by simp [strikeP, h1, h2, h3])
        have h3b : (kind == 3) = false := by rw [beq_eq_false_iff_ne]; exact h3
        clear h1 h2 h3
        go_enter Try.func65, Try.ntmps65
        go_wp2
        go_ret2
        rw [HP.out]
        exact ⟨_, rfl, OwnR.nil _ _, grown_of_below _ ((Below.refl _ _).alloc (Nat.le_refl _) _), .inl rfl⟩

end Go.Proofs.Ytfmebbnccjaadaa

/- Typed: what keys leave. The walk of live.Typed: of any keys it returns what typedP tells; the list is in new memory. -/
namespace Go.Proofs.Ytfmebbnccjaadaa
open Go.RowKit

/-- From a list that was typed on, at key i, over the keys that are left. -/
def typedGo : List Int → Nat → List (Int × Int) → List Int × Int × Int
  | acc, _, [] => (acc, 0, 0)
  | acc, i, k :: ks => if (strikeP acc k.1 k.2).2 = 0 then typedGo (strikeP acc k.1 k.2).1 (i + 1) ks else ([], (strikeP acc k.1 k.2).2, i)
def typedP (ks : List (Int × Int)) : List Int × Int × Int := if ks.length > 500 then ([], 5, 0) else typedGo [] 0 ks

/-- Keys, as cells. -/
def keyCells (l : List (Int × Int)) : List Value := l.flatMap fun k => [.int .i64 k.1, .int .i32 k.2]
theorem keyCells_length (l : List (Int × Int)) : (keyCells l).length = l.length * 2 := by
  induction l with
  | nil => rfl
  | cons x l ih => simp only [keyCells, List.flatMap_cons] at ih ⊢; simp [ih]; omega
theorem keyCells_at (l : List (Int × Int)) (k : Nat) (x y : Int) (hk : l[k]? = some (x, y)) : (keyCells l)[k * 2]? = some (.int .i64 x) ∧ (keyCells l)[k * 2 + 1]? = some (.int .i32 y) := by
  induction l generalizing k with
  | nil => simp at hk
  | cons z l ih =>
    cases k with
    | zero => simp at hk; subst hk; simp [keyCells]
    | succ k =>
      have := ih k (by simpa using hk)
      simp only [keyCells, List.flatMap_cons] at this ⊢
      have e1 : (k + 1) * 2 = k * 2 + 1 + 1 := by omega
      rw [e1]
      simpa using this

def RdK (w : World) (B : Nat) (A : Option Addr) (n : Nat) (l : List (Int × Int)) : Prop := Rd w B 2 A n (keyCells l)
theorem RdK.len {w : World} {B n : Nat} {A : Option Addr} {l : List (Int × Int)} (h : RdK w B A n l) : l.length = n := by
  have := h.1; rw [keyCells_length] at this; omega
theorem RdK.at {w : World} {B n : Nat} {A : Option Addr} {l : List (Int × Int)} (h : RdK w B A n l) {k : Nat} (hk : k < n) :
    ∃ (b off : Nat) (x y : Int), A = some ⟨b, off, none⟩ ∧ b < B ∧ w.cell? ⟨b, off + k * 2, none⟩ = some (.int .i64 x) ∧ w.cell? ⟨b, off + k * 2 + 1, none⟩ = some (.int .i32 y) ∧ l.drop k = (x, y) :: l.drop (k + 1) := by
  obtain ⟨b, off, e, hb, hc⟩ := h.2 (by omega)
  have hl : k < l.length := by rw [h.len]; exact hk
  obtain ⟨h1, h2⟩ := keyCells_at l k l[k].1 l[k].2 (List.getElem?_eq_getElem hl)
  exact ⟨b, off, _, _, e, hb, hc _ _ h1, by rw [Nat.add_assoc]; exact hc _ _ h2, List.drop_eq_getElem_cons hl⟩

def TypedPost (w : World) (p : List Int × Int × Int) (e : Ending) (w' : World) : Prop :=
  ∃ v', e = .returned (.tuple #[v', .agg #[.int .i64 p.2.1, .int .i64 p.2.2]]) ∧ OwnR w' w.heap.size v' p.1 ∧ Below w.heap.size w w'

theorem strike_len (l : List Int) (a b : Int) : (strikeP l a b).1.length ≤ l.length + 1 := by
  unfold strikeP
  repeat' split
  all_goals simp
  all_goals omega

def TypedRel (w : World) (ks : List (Int × Int)) (n : Nat) (v i : Value) (wr : World) : Prop :=
  ∃ (j : Nat) (acc : List Int), j ≤ n ∧ i = .int .i64 j ∧ acc.length ≤ j ∧ OwnR wr (w.heap.size + 1) v acc ∧ typedGo [] 0 ks = typedGo acc j (ks.drop j) ∧
    Blk wr w.heap.size 28 #[.int .i64 0, .int .i64 0] ∧ Below w.heap.size w wr

set_option maxHeartbeats 400000 in
theorem typed_any (A : Option Addr) (n c : Nat) (ks : List (Int × Int)) (w : World) (hn : n ≤ 9223372036854775807) (hk : RdK w w.heap.size A n ks) :
    Calls Try.prog 27 #[.slice A n c] w (TypedPost w (typedP ks)) := by
  have hlen := hk.len
  by_cases h5 : 500 < n
  · have HP : Hid (typedP ks = ([], 5, 0)) := by unfold typedP; rw [if_pos (by omega)]; rfl
    have HK := Lib.hid hk
    clear hk
    have HL := Lib.hid hlen
    clear hlen
    go_enter Try.func27, Try.ntmps27
    go_wp2
    rw [HP.out]
    exact bodyPost_ret (v := .tuple #[.slice none 0 0, .agg #[.int .i64 5, .int .i64 0]]) (by simp [results, Try.results27, go_sem]) rfl ⟨_, rfl, OwnR.nil _ _, (Below.refl _ _).alloc (Nat.le_refl _) _⟩
  · have HP := Lib.hid (show typedP ks = typedGo [] 0 ks by unfold typedP; rw [if_neg (by omega)])
    have HK := Lib.hid hk
    clear hk
    have HL := Lib.hid hlen
    clear hlen
    go_enter Try.func27, Try.ntmps27
    go_wp2
    go_loopw [4, 14] (TypedRel w ks n) (fun _ i _ => n - (intOf i).toNat)
    case atStart => exact ⟨0, [], Nat.zero_le _, rfl, Nat.le_refl _, OwnR.nil _ _, rfl, Blk.new _ _ _, (Below.refl _ _).alloc (Nat.le_refl _) _⟩
    case round =>
      obtain ⟨j, acc, hj, rfl, hacc, hown, hgo, hres, hbel⟩ := hrel
      have hres0 := hres
      by_cases hlt : j < n
      · obtain ⟨b, off, kd, rd, rfl, hab, hc1, hc2, hdrop⟩ := RdK.at HK.out hlt
        have hd1 := (hbel.cell (p := ⟨b, off + j * 2, none⟩) hab).trans hc1
        have hd2 := (hbel.cell (p := ⟨b, off + j * 2 + 1, none⟩) hab).trans hc2
        clear hc1 hc2
        have hz := hbel.size
        have hsl := strike_len acc kd rd
        have hst := strike_any kd rd u4 acc (w.heap.size + 1) (wr.alloc (.cells #[.int .i64 kd, .int .i32 rd] 116)) (by have := hres.lt; simp; omega) (World.ownsRow.alloc hown _) (by omega)
        rw [hdrop, typedGo] at hgo
        dsimp only at hgo
        generalize hsp : strikeP acc kd rd = p at hst hsl hgo
        obtain ⟨l', er⟩ := p
        dsimp only at hsl hgo
        clear hsp hdrop
        have HST := Lib.hid hst
        clear hst
        by_cases he : er = 0
        · rw [if_pos he] at hgo
          subst he
          have HG := Lib.hid hgo
          clear hgo
          have HR := Lib.hid hres
          clear hres
          go_wp2_with fail
          refine HST.out.mono ?_
          rintro e w' ⟨v', rfl, hown', hgr', _⟩
          have hbel' : Below (w.heap.size + 1) (wr.alloc (.cells #[.int .i64 kd, .int .i32 rd] 116)) w' := (Below.refl _ _).grown hgr' (by have := hres0.lt; simp; omega) (fun k hk => (World.ownsRow.lt hown k hk).1)
          go_wp2
          exact ⟨⟨j + 1, l', by omega, by go_num, by omega, hown', HG.out, (HR.out.alloc _).below hbel' (by omega), ((hbel.alloc hz _).trans (hbel'.mono (by omega)))⟩, by simp [intOf]; omega⟩
        · rw [if_neg he] at hgo
          have he2 : (er != 0) = true := by rw [bne_iff_ne]; exact he
          clear he
          have HG := Lib.hid hgo
          clear hgo
          have HR := Lib.hid hres
          clear hres
          go_wp2_with fail
          refine HST.out.mono ?_
          rintro e w' ⟨v', rfl, hown', hgr', _⟩
          have hbel' : Below (w.heap.size + 1) (wr.alloc (.cells #[.int .i64 kd, .int .i32 rd] 116)) w' := (Below.refl _ _).grown hgr' (by have := hres0.lt; simp; omega) (fun k hk => (World.ownsRow.lt hown k hk).1)
          have hR := (HR.out.alloc (.cells #[.int .i64 kd, .int .i32 rd] 116)).below hbel' (by omega)
          have r1 := hR.cell 0
          have r2 := hR.cell 1
          have r3 := hR.frozen 0
          have r4 := hR.frozen 1
          simp at r1 r2
          go_wp2
          rw [HP.out, HG.out]
          refine bodyPost_ret (v := .tuple #[.slice none 0 0, .agg #[.int .i64 er, .int .i64 j]]) (by simp [results, Try.results27, go_sem, r1, r2]) rfl ⟨_, rfl, OwnR.nil _ _, ?_⟩
          exact ((((hbel.alloc hz _).trans (hbel'.mono (by omega))).setCell (by simp) _).setCell (by simp) _)
      · obtain rfl : j = n := by omega
        have r1 := hres.cell 0
        have r2 := hres.cell 1
        have r3 := hres.frozen 0
        have r4 := hres.frozen 1
        simp at r1 r2
        have hgo2 : typedGo [] 0 ks = (acc, 0, 0) := by rw [hgo, List.drop_of_length_le (by rw [HL.out]; omega)]; rfl
        have HG := Lib.hid hgo2
        clear hgo hgo2
        have HR := Lib.hid hres
        clear hres
        go_wp2
        rw [HP.out, HG.out]
        refine bodyPost_ret (v := .tuple #[u4, .agg #[.int .i64 0, .int .i64 0]]) (by simp [results, Try.results27, go_sem, r1, r2]) rfl ⟨_, rfl, ?_, ?_⟩
        · exact own_mono (ownsRow_setCell_below (ownsRow_setCell_below hown (by simp) _) (by simp) _) (by omega)
        · exact ((hbel.setCell (by simp) _).setCell (by simp) _)

end Go.Proofs.Ytfmebbnccjaadaa

/- The walk of scriptref21.Typed: it tells typedP. What was typed up to a key: accAt. -/
namespace Go.Proofs.Ytfmebbnccjaadaa
open Go.RowKit

def stepK (a : List Int) (k : Int × Int) : List Int := (strikeP a k.1 k.2).1
def accAt (ks : List (Int × Int)) (i : Nat) : List Int := (ks.take i).foldl stepK []
theorem accAt_succ {ks : List (Int × Int)} {i : Nat} {k : Int × Int} (h : ks[i]? = some k) : accAt ks (i + 1) = (strikeP (accAt ks i) k.1 k.2).1 := by
  unfold accAt
  rw [List.take_add_one, h, List.foldl_append]
  rfl
theorem fold_len : ∀ (ks : List (Int × Int)) (a : List Int), (ks.foldl stepK a).length ≤ a.length + ks.length := by
  intro ks
  induction ks with
  | nil => intro a; simp
  | cons k ks ih =>
    intro a
    rw [List.foldl_cons]
    have h1 := ih (stepK a k)
    have h2 := strike_len a k.1 k.2
    unfold stepK at h1 ⊢
    simp only [List.length_cons]
    omega
theorem accAt_len (ks : List (Int × Int)) (i : Nat) : (accAt ks i).length ≤ i := by
  have h := fold_len (ks.take i) []
  have h2 : (ks.take i).length ≤ i := by rw [List.length_take]; omega
  unfold accAt
  simp only [List.length_nil] at h
  omega
theorem typed_prefix : ∀ (ks : List (Int × Int)) (acc : List Int) (j : Nat), (typedGo acc j ks).2.1 = 0 → ∀ i, typedGo acc j (ks.take i) = ((ks.take i).foldl stepK acc, 0, 0) := by
  intro ks
  induction ks with
  | nil => intro acc j _ i; simp [typedGo]
  | cons k ks ih =>
    intro acc j h i
    cases i with
    | zero => simp [typedGo]
    | succ i =>
      rw [typedGo] at h
      by_cases he : (strikeP acc k.1 k.2).2 = 0
      · rw [if_pos he] at h
        rw [List.take_succ_cons, typedGo, if_pos he, ih _ _ h i, List.foldl_cons]
        rfl
      · rw [if_neg he] at h
        exact absurd h he
theorem typed_take {ks : List (Int × Int)} (h : (typedP ks).2.1 = 0) (i : Nat) : typedP (ks.take i) = (accAt ks i, 0, 0) := by
  unfold typedP at h ⊢
  by_cases h5 : ks.length > 500
  · rw [if_pos h5] at h; cases h
  · rw [if_neg h5] at h
    rw [if_neg (by rw [List.length_take]; omega)]
    exact typed_prefix ks [] 0 h i
theorem typed_ok {ks : List (Int × Int)} (h : (typedP ks).2.1 = 0) : ks.length ≤ 500 := by
  unfold typedP at h
  by_cases h5 : ks.length > 500
  · rw [if_pos h5] at h; cases h
  · omega

set_option maxRecDepth 100000 in
set_option maxHeartbeats 1600000 in
theorem ref21_typed (A : Option Addr) (n c : Nat) (ks : List (Int × Int)) (w : World) (hn : n ≤ 9223372036854775807) (hk : RdK w w.heap.size A n ks) :
    Calls Try.prog 28 #[.slice A n c] w (TypedPost w (typedP ks)) := by
  obtain ⟨i0, hi, z0, z1, z2⟩ := info_parts Try.info21
  have hlen := hk.len
  have HK := Lib.hid hk
  have HL := Lib.hid hlen
  clear hk
  by_cases h5 : 500 < n
  · have HP : Hid (typedP ks = ([], 5, 0)) := by unfold typedP; rw [if_pos (by omega)]; rfl
    clear hlen
    go_enter Try.func28, Try.ntmps28
    go_wp2_with fail
    rw [HP.out]
    exact bodyPost_ret (v := .tuple #[.slice none 0 0, .agg #[.int .i64 5, .int .i64 0]]) (by simp [results, Try.results28, go_sem]) rfl ⟨_, rfl, OwnR.nil _ _, (Below.refl _ _).alloc (Nat.le_refl _) _⟩
  · have HP := Lib.hid (show typedP ks = typedGo [] 0 ks by unfold typedP; rw [if_neg (by omega)])
    have HF0 := Lib.hid (Blk.new w 28 #[.int .i64 0, .int .i64 0])
    clear hlen
    go_enter Try.func28, Try.ntmps28
    go_wp2_with fail
    go_loopw [4, 14] (TypedRel w ks n) (fun _ i _ => n - (intOf i).toNat)
    case atStart => exact ⟨0, [], Nat.zero_le _, rfl, Nat.le_refl _, OwnR.nil _ _, rfl, HF0.out, (Below.refl _ _).alloc (Nat.le_refl _) _⟩
    case round =>
      obtain ⟨j, acc, hj, rfl, hacc, hown, hgo, hres, hbel⟩ := hrel
      have hz := hbel.size
      have hzl := hres.lt
      obtain ⟨Av, cv, rfl, _⟩ := own_form hown
      by_cases hlt : j < n
      · obtain ⟨b, off, kd, rd, rfl, hab, hc1, hc2, hdrop⟩ := RdK.at HK.out hlt
        have hd1 := (hbel.cell (p := ⟨b, off + j * 2, none⟩) hab).trans hc1
        have hd2 := (hbel.cell (p := ⟨b, off + j * 2 + 1, none⟩) hab).trans hc2
        rw [hdrop, typedGo] at hgo
        dsimp only at hgo
        have HGO := Lib.hid hgo
        have HF1 := Lib.hid (hres.alloc (.cells #[.int .i64 kd, .int .i32 rd] 116))
        have HB1 := Lib.hid (hbel.alloc hz (.cells #[.int .i64 kd, .int .i32 rd] 116))
        have HO1 := Lib.hid (World.ownsRow.alloc hown (.cells #[.int .i64 kd, .int .i32 rd] 116))
        have HKB := Lib.hid (Blk.new wr 116 #[.int .i64 kd, .int .i32 rd])
        obtain ⟨na, hna⟩ : ∃ na, acc.length = na := ⟨_, rfl⟩
        have HNA := Lib.hid hna
        rw [hna] at hacc HO1 ⊢
        clear hc1 hc2 hdrop hgo hres hbel hown hna
        go_upto_region 8 with fail
        generalize hW1 : wr.alloc (.cells #[.int .i64 kd, .int .i32 rd] 116) = W1 at *
        have hw1 : wr.heap.size < W1.heap.size := HKB.out.lt
        clear hW1 hd1 hd2
        have k0 : W1.cell? ⟨wr.heap.size, 0, none⟩ = some (.int .i64 kd) := HKB.out.cell 0
        have k1 : W1.cell? ⟨wr.heap.size, 1, none⟩ = some (.int .i32 rd) := HKB.out.cell 1
        have y0 := HF1.out.cell 0
        have y1 := HF1.out.cell 1
        have g0 := HF1.out.frozen 0
        have g1 := HF1.out.frozen 1
        by_cases e1 : kd = 1
        · subst e1
          have HN := Lib.hid (Rd.new W1 21 1 1 [.int .i32 rd] rfl)
          have HO2 := Lib.hid (World.ownsRow.alloc HO1.out (.cells #[.int .i32 rd] 21))
          have hba := (Below.refl W1.heap.size W1).alloc (Nat.le_refl _) (.cells #[.int .i32 rd] 21)
          have HB2 := Lib.hid (HB1.out.trans (hba.mono HB1.out.size))
          have HF2 := Lib.hid (HF1.out.alloc (.cells #[.int .i32 rd] 21))
          clear hba
          cases hr : rightB rd
          · have HS := Lib.hid (show (strikeP acc 1 rd).2 = 3 by simp [strikeP, hr])
            have HG := Lib.hid (HP.out.trans (HGO.out.trans (if_neg (by rw [HS.out]; decide))))
            have HR := Lib.hid hr
            clear hr
            go_wp2_with fail
            refine (ref_right _ _).mono ?_
            rintro e w' ⟨rfl, rfl⟩
            rw [HR.out]
            clear HR
            go_wp2_with (at_builtin; refine wpList_append_rd _ rfl (.tmp 27) (.tmp 30) 23 rfl (w.heap.size + 1) 21 i0 _ 1 4 Try.underlying23 hi z0 z1 z2 rfl (by decide) _ na _ rfl HO2.out _ (some ⟨W1.heap.size, 0, none⟩) 1 1 (runeCells [rd]) rfl HN.out (runeCells_one _) (by simp only [maxLen]; omega) (by omega) (by simp; omega) ?_)
            intro v9 w9 happ
            have hfb := Blk.below HF2.out ((Below.refl _ _).grown happ.2.1 (by simp; omega) (fun k hk => (World.ownsRow.lt HO2.out k hk).1) : Below (w.heap.size + 1) _ w9) (by omega)
            have HB9 := Lib.hid (HB2.out.trans (((Below.refl _ _).grown happ.2.1 (by simp; omega) (fun k hk => (World.ownsRow.lt HO2.out k hk).1) : Below (w.heap.size + 1) _ w9).mono (Nat.le_succ _)))
            have y0 := hfb.cell 0
            have y1 := hfb.cell 1
            have g0 := hfb.frozen 0
            have g1 := hfb.frozen 1
            clear happ hfb
            go_wp2_with fail
            rw [HG.out, HS.out]
            exact bodyPost_ret (v := .tuple #[.slice none 0 0, .agg #[.int .i64 3, .int .i64 j]]) (by simp [results, Try.results28, go_sem, y0, y1]) rfl ⟨_, rfl, OwnR.nil _ _, (HB9.out.setCell (by simp) _).setCell (by simp) _⟩
          · have HS := Lib.hid (show strikeP acc 1 rd = (acc ++ [rd], 0) by have := HNA.out; simp [strikeP, hr]; omega)
            have HG := Lib.hid (HGO.out.trans (if_pos (by rw [HS.out])))
            rw [HS.out] at HG
            dsimp only at HG
            have HR := Lib.hid hr
            clear hr
            go_wp2_with fail
            refine (ref_right _ _).mono ?_
            rintro e w' ⟨rfl, rfl⟩
            rw [HR.out]
            clear HR
            go_wp2_with (at_builtin; refine wpList_append_rd _ rfl (.tmp 27) (.tmp 30) 23 rfl (w.heap.size + 1) 21 i0 _ 1 4 Try.underlying23 hi z0 z1 z2 rfl (by decide) _ na _ rfl HO2.out _ (some ⟨W1.heap.size, 0, none⟩) 1 1 (runeCells [rd]) rfl HN.out (runeCells_one _) (by simp only [maxLen]; omega) (by omega) (by simp; omega) ?_)
            intro v9 w9 happ
            have hbg : Below (w.heap.size + 1) _ w9 := (Below.refl _ _).grown happ.2.1 (by simp; omega) (fun k hk => (World.ownsRow.lt HO2.out k hk).1)
            have HF9 := Lib.hid (Blk.below HF2.out hbg (by omega))
            have HB9 := Lib.hid (HB2.out.trans (hbg.mono (Nat.le_succ _)))
            have HO9 := Lib.hid (show OwnR w9 (w.heap.size + 1) v9 (acc ++ [rd]) by
              have := happ.own
              unfold OwnR
              rw [runeCells_append, List.length_append, HNA.out]
              exact this)
            have HLA := Lib.hid (show (acc ++ [rd]).length ≤ j + 1 by have := HNA.out; simp; omega)
            clear happ hbg
            go_wp2_with fail
            exact ⟨⟨j + 1, acc ++ [rd], by omega, by go_num, HLA.out, HO9.out, HG.out, HF9.out, HB9.out⟩, by simp [intOf]; omega⟩
        · have e1b : (kd == 1) = false := by rw [beq_eq_false_iff_ne]; exact e1
          by_cases e2 : kd = 2
          · subst e2
            by_cases ha : na = 0
            · have HS := Lib.hid (show (strikeP acc 2 rd).2 = 6 by have : acc = [] := List.eq_nil_of_length_eq_zero (by rw [HNA.out]; exact ha); simp [strikeP, this])
              have HG := Lib.hid (HP.out.trans (HGO.out.trans (if_neg (by rw [HS.out]; decide))))
              have ha1 : ((na : Int) == 0) = true := by rw [beq_iff_eq]; omega
              clear ha
              go_wp2_with fail
              rw [HG.out, HS.out]
              exact bodyPost_ret (v := .tuple #[.slice none 0 0, .agg #[.int .i64 6, .int .i64 j]]) (by simp [results, Try.results28, go_sem, y0, y1]) rfl ⟨_, rfl, OwnR.nil _ _, (HB1.out.setCell (by simp) _).setCell (by simp) _⟩
            · obtain ⟨nb, rfl⟩ : ∃ nb, na = nb + 1 := ⟨na - 1, by omega⟩
              have HS := Lib.hid (show strikeP acc 2 rd = (acc.dropLast, 0) by have h0 : acc ≠ [] := (fun e => by have := HNA.out; rw [e] at this; simp at this); simp [strikeP, h0])
              have HG := Lib.hid (HGO.out.trans (if_pos (by rw [HS.out])))
              rw [HS.out] at HG
              dsimp only at HG
              obtain ⟨ga, ca, ea, _, _, _⟩ := own_some HO1.out (by omega)
              cases ea
              have HOP := Lib.hid (OwnR.pop (n := nb) HNA.out (by have := HO1.out; unfold OwnR; rw [HNA.out]; exact this))
              have HLA := Lib.hid (show acc.dropLast.length ≤ j + 1 by have := HNA.out; simp; omega)
              have hn0 : (((nb : Int) + 1) == 0) = false := by rw [beq_eq_false_iff_ne]; omega
              go_wp2_with fail
              exact ⟨⟨j + 1, acc.dropLast, by omega, by go_num, HLA.out, HOP.out, HG.out, HF1.out, HB1.out⟩, by simp [intOf]; omega⟩
          · have e2b : (kd == 2) = false := by rw [beq_eq_false_iff_ne]; exact e2
            by_cases e3 : kd = 3
            · subst e3
              have HS := Lib.hid (show strikeP acc 3 rd = ([], 0) by simp [strikeP])
              have HG := Lib.hid (HGO.out.trans (if_pos (by rw [HS.out])))
              rw [HS.out] at HG
              dsimp only at HG
              go_wp2_with fail
              exact ⟨⟨j + 1, [], by omega, by go_num, by simp, OwnR.nil _ _, HG.out, HF1.out, HB1.out⟩, by simp [intOf]; omega⟩
            · have e3b : (kd == 3) = false := by rw [beq_eq_false_iff_ne]; exact e3
              have HS := Lib.hid (show (strikeP acc kd rd).2 = 1 by simp [strikeP, e1, e2, e3])
              have HG := Lib.hid (HP.out.trans (HGO.out.trans (if_neg (by rw [HS.out]; decide))))
              clear e1 e2 e3
              go_wp2_with fail
              rw [HG.out, HS.out]
              exact bodyPost_ret (v := .tuple #[.slice none 0 0, .agg #[.int .i64 1, .int .i64 j]]) (by simp [results, Try.results28, go_sem, y0, y1]) rfl ⟨_, rfl, OwnR.nil _ _, (HB1.out.setCell (by simp) _).setCell (by simp) _⟩
      · obtain rfl : j = n := by omega
        have y0 := hres.cell 0
        have y1 := hres.cell 1
        have g0 := hres.frozen 0
        have g1 := hres.frozen 1
        have hgo2 : typedGo [] 0 ks = (acc, 0, 0) := by rw [hgo, List.drop_of_length_le (by rw [HL.out]; omega)]; rfl
        have HG := Lib.hid (HP.out.trans hgo2)
        have HO := Lib.hid hown
        have HB := Lib.hid hbel
        clear hgo hgo2 hres hown hbel
        go_wp2_with fail
        rw [HG.out]
        refine bodyPost_ret (v := .tuple #[.slice Av acc.length cv, .agg #[.int .i64 0, .int .i64 0]]) (by simp [results, Try.results28, go_sem, y0, y1]) rfl ⟨_, rfl, ?_, ?_⟩
        · exact own_mono (ownsRow_setCell_below (ownsRow_setCell_below HO.out (by simp) _) (by simp) _) (by omega)
        · exact ((HB.out.setCell (by simp) _).setCell (by simp) _)

end Go.Proofs.Ytfmebbnccjaadaa
