/- SynMono + RunesText + ParseHex + SetWork -/
import Derived.Test.YthnhbcohfoodlaaGreatDoorZt8
import Derived.Laws.Cover4
import Derived.Laws.Runes
import Derived.Test.YthnhbcohfoodlaaGreatDoorZt3
import Derived.Lib.ConvBytes
import Derived.Lib.Strings
namespace Go.Proofs.YthnhbcohfoodlaaGreatDoor
open Go.RowKit
theorem needP_ok {L : List Int} {i j : Nat} {r : Int} (h : needP L i r = .ok j) : j = i + 1 ∧ pk L i = r := by
 unfold needP at h
 split at h
 ·rename_i hp; injection h with h; exact ⟨h.symm, hp⟩
 ·cases h
theorem needP_at {L : List Int} {i : Nat} {r : Int} (h : pk L i = r) : needP L i r = .ok (i + 1) := by unfold needP; rw [if_pos h]
theorem needP_not {L : List Int} {i : Nat} {r : Int} (h : pk L i ≠ r) : needP L i r = .error (2, i) := by unfold needP; rw [if_neg h]
theorem runFrom_ge (p : Int → Bool) (L : List Int) (i : Nat) : i ≤ runFrom p L i := by unfold runFrom; omega
theorem skipP_ge (L : List Int) (i : Nat) : i ≤ skipP L i := runFrom_ge _ _ _
def RunesOk (L : List Int) : Prop := ∀ x ∈ L, 0 ≤ x ∧ x ≤ 1114111
theorem pk_range {L : List Int} (h : RunesOk L) (i : Nat) : pk L i = -1 ∨ (0 ≤ pk L i ∧ pk L i ≤ 1114111) := by
 unfold pk
 cases hi : L[i]? with
 | none => exact .inl rfl
 | some x => exact .inr (h x (List.mem_of_getElem? hi))
theorem pk_nonneg {L : List Int} (h : RunesOk L) {i : Nat} (h0 : pk L i ≠ -1) : 0 ≤ pk L i ∧ pk L i ≤ 1114111 := by
 rcases pk_range h i with h1 | h1
 ·exact absurd h1 h0
 ·exact h1
theorem hexV_range {d : Int} (h : hexB d = true) : 0 ≤ hexV d ∧ hexV d ≤ 15 := by
 unfold hexB at h
 unfold hexV
 simp only [Bool.or_eq_true, Bool.and_eq_true, decide_eq_true_eq] at h
 split
 ·omega
 ·split <;> omega
theorem hexFold_range (ds : List Int) : ∀ x : Int, 0 ≤ x → (∀ d ∈ ds, hexB d = true) → 0 ≤ ds.foldl (fun x d => 16 * x + hexV d) x ∧ ds.foldl (fun x d => 16 * x + hexV d) x < (x + 1) * 16 ^ ds.length := by
 induction ds with
 | nil => intro x h _; simp; omega
 | cons d ds ih =>
   intro x hx hd
   have h1 := hexV_range (hd d List.mem_cons_self)
   obtain ⟨i1, i2⟩ := ih (16 * x + hexV d) (by omega) (fun y hy => hd y (List.mem_cons_of_mem _ hy))
   rw [List.foldl_cons, List.length_cons]
   refine ⟨i1, Int.lt_of_lt_of_le i2 ?_⟩
   have e : (16 : Int) ^ (ds.length + 1) = 16 * 16 ^ ds.length := by rw [Int.pow_succ, Int.mul_comm]
   rw [e, ← Int.mul_assoc]
   exact Int.mul_le_mul_of_nonneg_right (by omega) (Int.pow_nonneg (by decide))
theorem takeWhile_all {p : Int → Bool} (l : List Int) : ∀ x ∈ l.takeWhile p, p x = true := by
 induction l with
 | nil => simp
 | cons a l ih =>
   intro x hx
   rw [List.takeWhile_cons] at hx
   split at hx
   ·rcases List.mem_cons.1 hx with rfl | hx
    ·assumption
    ·exact ih x hx
   ·simp at hx
theorem textAt_run (p : Int → Bool) (L : List Int) (i : Nat) : textAt L i (runFrom p L i) = (L.drop i).takeWhile p := by
 unfold textAt runFrom
 rw [Nat.add_sub_cancel_left]
 have h := (List.takeWhile_prefix p (l := L.drop i))
 exact (List.prefix_iff_eq_take.1 h).symm
theorem hexVal_range (L : List Int) (i : Nat) (h : runFrom hexB L i - i ≤ 6) : 0 ≤ hexVal (textAt L i (runFrom hexB L i)) ∧ hexVal (textAt L i (runFrom hexB L i)) < 16777216 := by
 rw [textAt_run]
 obtain ⟨h1, h2⟩ := hexFold_range ((L.drop i).takeWhile hexB) 0 (Int.le_refl _) (takeWhile_all _)
 refine ⟨h1, Int.lt_of_lt_of_le h2 ?_⟩
 have hl : ((L.drop i).takeWhile hexB).length ≤ 6 := by unfold runFrom at h; omega
 generalize ((L.drop i).takeWhile hexB).length = k at hl
 have : k = 0 ∨ k = 1 ∨ k = 2 ∨ k = 3 ∨ k = 4 ∨ k = 5 ∨ k = 6 := by omega
 rcases this with rfl | rfl | rfl | rfl | rfl | rfl | rfl <;> decide
theorem hexP_ok {L : List Int} {i j : Nat} {x : Int} (h : hexP L i = .ok (x, j)) : i < j ∧ 0 ≤ x ∧ x ≤ 1114111 := by
 unfold hexP at h
 cases h1 : needP L (i + 1) 123 with
 | error e => rw [h1] at h; cases h
 | ok a =>
   rw [h1] at h
   simp only at h
   split at h
   ·cases h
   ·rename_i hn
    rw [not_or] at hn
    have ha := (needP_ok h1).1
    cases h2 : needP L (runFrom hexB L a) 125 with
    | error e => rw [h2] at h; cases h
    | ok b =>
      rw [h2] at h
      simp only at h
      have hb := (needP_ok h2).1
      have := runFrom_ge hexB L a
      have hr := hexVal_range L a (by omega)
      split at h
      ·cases h
      ·injection h with h
       injection h with h3 h4
       omega
theorem charP_ok {L : List Int} (hL : RunesOk L) {i j : Nat} {x : Int} (h : charP L i = .ok (x, j)) : i < j ∧ 0 ≤ x ∧ x ≤ 1114111 := by
 unfold charP at h
 split at h
 ·rename_i hp
  injection h with h
  injection h with h1 h2
  have : pk L i ≠ -1 := fun e => by rw [e] at hp; exact absurd hp (by decide)
  have := pk_nonneg hL this
  omega
 ·split at h
  ·cases h
  ·split at h
   ·injection h with h; injection h with h1 h2; omega
   ·split at h
    ·injection h with h; injection h with h1 h2; omega
    ·split at h
     ·have := hexP_ok h; omega
     ·split at h
      ·cases h
      ·rename_i hn
       rw [not_or] at hn
       injection h with h
       injection h with h1 h2
       have := pk_range hL (i + 1)
       omega
theorem spanP_ok {L : List Int} (hL : RunesOk L) {i j : Nat} {x : Int × Int} (h : spanP L i = .ok (x, j)) : i < j ∧ 0 ≤ x.1 ∧ x.1 ≤ x.2 ∧ x.2 ≤ 1114111 := by
 unfold spanP at h
 cases h1 : charP L i with
 | error e => rw [h1] at h; cases h
 | ok p =>
   obtain ⟨low, a⟩ := p
   rw [h1] at h
   have ha := charP_ok hL h1
   simp only at h
   split at h
   ·cases h2 : charP L (a + 1) with
    | error e => rw [h2] at h; cases h
    | ok q =>
      obtain ⟨high, b⟩ := q
      rw [h2] at h
      have hb := charP_ok hL h2
      simp only at h
      split at h
      ·cases h
      ·injection h with h
       injection h with h3 h4
       subst h3
       simp only
       omega
   ·injection h with h
    injection h with h3 h4
    subst h3
    simp only
    omega
theorem right_one {x : Int × Int} (h : 0 ≤ x.1 ∧ x.1 ≤ x.2 ∧ x.2 ≤ 1114111) : RightSet [x] := ⟨by simp, by simpa using h, List.pairwise_singleton _ _⟩
theorem right_nil : RightSet [] := ⟨Nat.zero_le _, by simp, List.Pairwise.nil⟩
theorem class_right {n : List Int} {s : Spans} (h : classOf n = some s) : RightSet s := by
 have key : ∀ s : Spans, wrongP s = 0 → RightSet s := fun _ => right_set
 unfold classOf at h
 repeat' (split at h)
 all_goals first | (injection h with h; subst h; exact key _ (by decide)) | cases h
theorem classP_ok {L : List Int} {i j : Nat} {s : Spans} (h : classP L i = .ok (s, j)) : i < j ∧ RightSet s := by
 unfold classP at h
 cases h0 : classOf (textAt L (i + 2) (runFrom plainB L (i + 2))) with
 | none => rw [h0] at h; cases h
 | some t =>
   rw [h0] at h
   simp only at h
   cases h1 : needP L (runFrom plainB L (i + 2)) 58 with
   | error e => rw [h1] at h; cases h
   | ok a =>
     rw [h1] at h
     simp only at h
     cases h2 : needP L a 93 with
     | error e => rw [h2] at h; cases h
     | ok b =>
       rw [h2] at h
       simp only at h
       injection h with h
       injection h with h3 h4
       subst h3
       have := runFrom_ge plainB L (i + 2)
       have := (needP_ok h1).1
       have := (needP_ok h2).1
       exact ⟨by omega, class_right h0⟩
def InnerOk (inner : Nat → Rdg Spans) : Prop := ∀ i s j, inner i = .ok (s, j) → i < j ∧ RightSet s
theorem partP_ok {inner : Nat → Rdg Spans} (hi : InnerOk inner) {L : List Int} (hL : RunesOk L) {i j : Nat} {s : Spans} (h : partP' inner L i = .ok (s, j)) : i < j ∧ RightSet s := by
 unfold partP' at h
 split at h
 ·exact classP_ok h
 ·split at h
  ·exact hi _ _ _ h
  ·split at h
   ·have := hi _ _ _ h
    have h2 := skipP_ge L (i + 1)
    exact ⟨by omega, this.2⟩
   ·cases h1 : spanP L i with
    | error e => rw [h1] at h; cases h
    | ok p =>
      obtain ⟨x, a⟩ := p
      rw [h1] at h
      simp only at h
      injection h with h
      injection h with h3 h4
      subst h3
      have := spanP_ok hL h1
      exact ⟨by omega, right_one this.2⟩
theorem partsP_ok {inner : Nat → Rdg Spans} (hi : InnerOk inner) {L : List Int} (hL : RunesOk L) : ∀ (f i j : Nat) (cur s : Spans), RightSet cur → partsP inner L f i cur = .ok (s, j) → i < j ∧ RightSet s := by
 intro f
 induction f with
 | zero => intro i j cur s _ h; unfold partsP at h; cases h
 | succ f ih =>
   intro i j cur s hc h
   rw [partsP] at h
   have h0 := skipP_ge L i
   split at h
   ·injection h with h
    injection h with h3 h4
    subst h3
    exact ⟨by omega, hc⟩
   ·cases h1 : partP' inner L (skipP L i) with
    | error e => rw [h1] at h; cases h
    | ok p =>
      obtain ⟨t, a⟩ := p
      rw [h1] at h
      simp only at h
      have hp := partP_ok hi hL h1
      split at h
      ·cases h
      ·have := ih _ _ _ _ (op_right _ hc hp.2) h
       exact ⟨by omega, this.2⟩
theorem setP_ok {L : List Int} (hL : RunesOk L) : ∀ n, InnerOk (setP' L n) := by
 intro n
 induction n with
 | zero => intro i s j h; unfold setP' at h; cases h
 | succ n ih =>
   intro i s j h
   rw [setP'] at h
   cases h1 : needP L i 91 with
   | error e => rw [h1] at h; cases h
   | ok a =>
     rw [h1] at h
     simp only at h
     have ha := (needP_ok h1).1
     cases h2 : partsP (setP' L n) L (L.length + 1) (if pk L a = 94 then a + 1 else a) [] with
     | error e => rw [h2] at h; cases h
     | ok p =>
       obtain ⟨cur, k⟩ := p
       rw [h2] at h
       simp only at h
       obtain ⟨g1, g2⟩ := partsP_ok ih hL _ _ _ _ _ right_nil h2
       have hk : i < k := by split at g1 <;> omega
       split at h
       ·split at h
        ·cases h
        ·injection h with h
         injection h with h3 h4
         subst h3 h4
         exact ⟨hk, op_right _ g2 right_nil⟩
       ·injection h with h
        injection h with h3 h4
        subst h3 h4
        exact ⟨hk, g2⟩
theorem partsP_end {inner : Nat → Rdg Spans} {L : List Int} {f i : Nat} {cur : Spans} (h : pk L (skipP L i) = 93) : partsP inner L (f + 1) i cur = .ok (cur, skipP L i + 1) := by rw [partsP, if_pos h]
theorem partsP_err {inner : Nat → Rdg Spans} {L : List Int} {f i : Nat} {cur : Spans} {e : Int × Nat} (h : pk L (skipP L i) ≠ 93) (he : partP' inner L (skipP L i) = .error e) : partsP inner L (f + 1) i cur = .error e := by rw [partsP, if_neg h, he]
theorem partsP_step {inner : Nat → Rdg Spans} {L : List Int} {f i j : Nat} {cur s : Spans} (h : pk L (skipP L i) ≠ 93) (he : partP' inner L (skipP L i) = .ok (s, j)) :
 partsP inner L (f + 1) i cur = if (opP (opOf (pk L (skipP L i))) cur s).2 ≠ 0 then .error ((opP (opOf (pk L (skipP L i))) cur s).2, j) else partsP inner L f j (opP (opOf (pk L (skipP L i))) cur s).1 := by rw [partsP, if_neg h, he]
end Go.Proofs.YthnhbcohfoodlaaGreatDoor

namespace Go.Proofs.YthnhbcohfoodlaaGreatDoor
open Go.RowKit
def asciiL (l : List Int) : Prop := ∀ x ∈ l, 0 ≤ x ∧ x < 128
def rowB (l : List Int) : List UInt8 := l.map fun x => UInt8.ofNat x.toNat
theorem encode_low {r : Int} (h0 : 0 ≤ r) (h1 : r < 128) : (Utf8.encode r).data.toList = [UInt8.ofNat r.toNat] := by
 have hv : Utf8.valid r = true := by simp [Utf8.valid]; omega
 unfold Utf8.encode
 simp only [hv, if_true]
 rw [if_pos (by omega)]
theorem encode_high {r : Int} (h : ¬ (0 ≤ r ∧ r < 128)) : ∃ b ∈ (Utf8.encode r).data.toList, 128 ≤ b.toNat := by
 cases hv : Utf8.valid r
 ·have : Utf8.encode r = Utf8.encode 65533 := by
   unfold Utf8.encode
   simp only [hv, show Utf8.valid 65533 = true from by decide]
   rfl
  rw [this]
  exact ⟨239, by decide, by decide⟩
 ·have h128 : 128 ≤ r := by
   simp [Utf8.valid] at hv
   omega
  obtain ⟨h1, _, h3⟩ := encode_facts r hv h128
  exact ⟨_, Array.getElem_mem_toList (xs := (Utf8.encode r).data) (by simpa using (show (Utf8.encode r).size - 1 < (Utf8.encode r).size by omega)), h3 (by omega)⟩
theorem runesBytes_go (l : List Int) : ∀ s : ByteArray, (l.foldl (fun r n => r ++ Utf8.encode n) s).data.toList = s.data.toList ++ l.flatMap fun r => (Utf8.encode r).data.toList := by
 induction l with
 | nil => intro s; simp
 | cons x l ih => intro s; rw [List.foldl_cons, ih, List.flatMap_cons]; simp
theorem runesBytes_list (l : List Int) : (runesBytes l).data.toList = l.flatMap fun r => (Utf8.encode r).data.toList := by
 rw [runesBytes, runesBytes_go]; rfl
theorem runesBytes_ascii {l : List Int} (h : asciiL l) : (runesBytes l).data.toList = rowB l := by
 rw [runesBytes_list]
 induction l with
 | nil => rfl
 | cons x l ih =>
   have hx := h x List.mem_cons_self
   rw [List.flatMap_cons, encode_low hx.1 hx.2, ih (fun y hy => h y (List.mem_cons_of_mem _ hy))]
   rfl
theorem rowB_inj : ∀ {a b : List Int}, asciiL a → asciiL b → rowB a = rowB b → a = b := by
 intro a
 induction a with
 | nil => intro b _ _ h; cases b with
   | nil => rfl
   | cons y b => cases h
 | cons x a ih =>
   intro b ha hb h
   cases b with
   | nil => cases h
   | cons y b =>
     unfold rowB at h
     rw [List.map_cons, List.map_cons] at h
     injection h with h1 h2
     have hx := ha x List.mem_cons_self
     have hy := hb y List.mem_cons_self
     have h3 := congrArg UInt8.toNat h1
     simp at h3
     obtain rfl : x = y := by omega
     rw [ih (fun z hz => ha z (List.mem_cons_of_mem _ hz)) (fun z hz => hb z (List.mem_cons_of_mem _ hz)) h2]
theorem runesBytes_eq {l m : List Int} (hm : asciiL m) (h : runesBytes l = runesBytes m) : l = m := by
 have e : (runesBytes l).data.toList = rowB m := by rw [h, runesBytes_ascii hm]
 have hl : asciiL l := by
  intro x hx
  by_cases h1 : 0 ≤ x ∧ x < 128
  ·exact h1
  ·exfalso
   obtain ⟨b, hb, h2⟩ := encode_high h1
   have : b ∈ rowB m := by rw [← e, runesBytes_list]; exact List.mem_flatMap.2 ⟨x, hx, hb⟩
   unfold rowB at this
   obtain ⟨y, hy, rfl⟩ := List.mem_map.1 this
   have := hm y hy
   simp at h2
   omega
 rw [runesBytes_ascii hl] at e
 exact rowB_inj hl hm e
theorem runesBytes_size {l : List Int} (h : asciiL l) : (runesBytes l).size = l.length := by
 have h2 := congrArg List.length (runesBytes_ascii h)
 rw [rowB, List.length_map, Array.length_toList] at h2
 exact h2
theorem hex_ascii {l : List Int} (h : ∀ d ∈ l, hexB d = true) : asciiL l := by
 intro d hd
 have := h d hd
 unfold hexB at this
 simp only [Bool.or_eq_true, Bool.and_eq_true, decide_eq_true_eq] at this
 omega
theorem hexVal_snoc (l : List Int) (d : Int) : hexVal (l ++ [d]) = 16 * hexVal l + hexV d := by unfold hexVal; rw [List.foldl_append]; rfl
theorem hexVal_small {l : List Int} (h : ∀ d ∈ l, hexB d = true) (hl : l.length ≤ 6) : 0 ≤ hexVal l ∧ hexVal l < 16777216 := by
 obtain ⟨h1, h2⟩ := hexFold_range l 0 (Int.le_refl _) h
 refine ⟨h1, Int.lt_of_lt_of_le h2 ?_⟩
 generalize l.length = k at hl
 have : k = 0 ∨ k = 1 ∨ k = 2 ∨ k = 3 ∨ k = 4 ∨ k = 5 ∨ k = 6 := by omega
 rcases this with rfl | rfl | rfl | rfl | rfl | rfl | rfl <;> decide
end Go.Proofs.YthnhbcohfoodlaaGreatDoor

namespace Go.Proofs.YthnhbcohfoodlaaGreatDoor
open Go.RowKit
theorem lower_hex (c : Int) (w : World) (h : (65 ≤ c ∧ c ≤ 70) ∨ (97 ≤ c ∧ c ≤ 102)) :
 Calls Tryz.prog 212 #[.int .u8 c] w fun e w' => e = .returned (.int .u8 (hexV c + 87)) ∧ w' = w := by
 have hc : c = 65 ∨ c = 66 ∨ c = 67 ∨ c = 68 ∨ c = 69 ∨ c = 70 ∨ c = 97 ∨ c = 98 ∨ c = 99 ∨ c = 100 ∨ c = 101 ∨ c = 102 := by omega
 clear h
 rcases hc with rfl | rfl | rfl | rfl | rfl | rfl | rfl | rfl | rfl | rfl | rfl | rfl
 all_goals
  go_enter Tryz.func212, Tryz.ntmps212
  go_wp2_with fail
  go_ret
  exact ⟨rfl, rfl⟩
def PuRel (W : World) (ds : List Int) (u n i : Value) (wr : World) : Prop := u = .bool false ∧ ∃ j : Nat, j ≤ ds.length ∧ i = .int .i64 j ∧ n = .int .u64 (hexVal (ds.take j)) ∧ wr = W
set_option maxRecDepth 100000 in
set_option maxHeartbeats 3200000 in
theorem parse_uint (s : ByteArray) (ds : List Int) (w : World) (hs : s.data.toList = rowB ds) (hd : ∀ d ∈ ds, hexB d = true) (h1 : 1 ≤ ds.length) (h6 : ds.length ≤ 6) :
 Calls Tryz.prog 206 #[.string s, .int .i64 16, .int .i64 64] w fun e w' => e = .returned (.tuple #[.int .u64 (hexVal ds), .nilIface]) ∧ Below w.heap.size w w' := by
 have hsz : s.size = ds.length := by have h2 := congrArg List.length hs; rw [rowB, List.length_map, Array.length_toList] at h2; exact h2
 have hcv := Lib.run_convert_string_bytes (P := Tryz.prog) w 9 76 5 s Tryz.underlying9 Tryz.underlying76 Tryz.underlying5
 have hcell : ∀ j d, ds[j]? = some d → (Lib.bytesWorld w 5 s).cell? ⟨w.heap.size, j, none⟩ = some (.int .u8 d) := fun j d h => by
  have hj : j < s.size := by rw [hsz]; exact (List.getElem?_eq_some_iff.1 h).1
  have := Lib.bytesWorld_cell w 5 s j hj
  rw [this, hs]
  have hb := hex_ascii hd d (List.mem_of_getElem? h)
  have : (rowB ds).getD j 0 = UInt8.ofNat d.toNat := by simp [rowB, List.getD_eq_getElem?_getD, h]
  rw [this]
  congr 2
  simp
  omega
 have hB : Below w.heap.size w (Lib.bytesWorld w 5 s) := Lib.below_freeze (((Below.refl _ _).drew).alloc (Nat.le_refl _) _) (p := ⟨w.heap.size, _, none⟩) (Nat.le_refl _) _
 have hne : (s.toList == []) = false := by
  rw [beq_eq_false_iff_ne, Lib.toList_data]
  intro e
  have := congrArg List.length e
  rw [Array.length_toList] at this
  have h2 : s.size = 0 := this
  omega
 rw [hsz] at hcv
 generalize Lib.bytesWorld w 5 s = W at *
 generalize hk : ds.length = k at *
 generalize Go.grownCap w k 0 5 = C at *
 have HC := Lib.hid hcell
 have HD := Lib.hid hd
 clear hcell hd hs
 go_enter Tryz.func206, Tryz.ntmps206
 have hmx : IntKind.u64.wrap (IntKind.u64.wrap 18446744073709551616 - 1) = 18446744073709551615 := by decide
 go_wp2_with fail
 go_loopw [12, 13, 101] (PuRel W ds) (fun _ _ i _ => k - (intOf i).toNat)
 case atStart => exact ⟨rfl, 0, Nat.zero_le _, rfl, rfl, rfl⟩
 case round =>
  obtain ⟨rfl, j, hj, rfl, rfl, rfl⟩ := hrel
  rw [hk] at hj
  by_cases hlt : j < k
  ·obtain ⟨d, hdj⟩ : ∃ z, ds[j]? = some z := ⟨_, List.getElem?_eq_getElem (by omega)⟩
   have hh := HD.out d (List.mem_of_getElem? hdj)
   have d0 := HC.out j d hdj
   obtain ⟨x0, x1⟩ := hexVal_small (l := ds.take j) (fun y hy => HD.out y (List.mem_of_mem_take hy)) (by rw [List.length_take]; omega)
   have HS := Lib.hid (show hexVal (ds.take (j + 1)) = 16 * hexVal (ds.take j) + hexV d by rw [List.take_add_one, hdj]; exact hexVal_snoc _ _)
   have hv := hexV_range hh
   have hr : (48 ≤ d ∧ d ≤ 57) ∨ (97 ≤ d ∧ d ≤ 102) ∨ (65 ≤ d ∧ d ≤ 70) := by
    unfold hexB at hh
    simpa only [Bool.or_eq_true, Bool.and_eq_true, decide_eq_true_eq] using hh
   generalize hexVal (ds.take j) = X at *
   clear hdj hh
   have hd57 : (48 ≤ d ∧ d ≤ 57 ∧ hexV d = d - 48) ∨ (¬ d ≤ 57 ∧ 65 ≤ d ∧ d ≤ 102 ∧ ((65 ≤ d ∧ d ≤ 70) ∨ (97 ≤ d ∧ d ≤ 102))) := by
    unfold hexV
    rcases hr with h | h | h
    ·left; rw [if_pos h.2]; omega
    ·right; omega
    ·right; omega
   rcases hd57 with ⟨q1, q2, q3⟩ | ⟨q1, q2, q3, q4⟩
   ·have HV := Lib.hid q3
    clear hr q3
    have hd1 : decide (48 ≤ d) = true := decide_eq_true q1
    have hd2 : decide (d ≤ 57) = true := decide_eq_true q2
    go_wp2_with fail
    exact ⟨⟨rfl, j + 1, by omega, by go_num, by rw [HS.out, HV.out]; congr 1; omega, rfl⟩, by simp [intOf]; omega⟩
   ·have HL := Lib.hid (fun (W : World) => lower_hex d W (by omega))
    have hd2 : decide (d ≤ 57) = false := decide_eq_false q1
    have hd1 : decide (48 ≤ d) = true := decide_eq_true (by omega)
    have hv10 : 10 ≤ hexV d := by unfold hexV; rw [if_neg q1]; split <;> omega
    have h95 : (d == 95) = false := by simp; omega
    generalize hexV d = v at *
    clear hr q4
    go_wp2_with (go_at_call 212; refine (HL.out _).mono ?_; rintro e w1 ⟨rfl, rfl⟩)
    exact ⟨⟨rfl, j + 1, by omega, by go_num, by rw [HS.out]; congr 1; omega, rfl⟩, by simp [intOf]; omega⟩
  ·obtain rfl : j = k := by omega
   rw [List.take_of_length_le (by omega)]
   go_wp2_with fail
   go_ret2
   exact ⟨rfl, hB⟩
set_option maxRecDepth 100000 in
set_option maxHeartbeats 3200000 in
theorem parse_int_in (s : ByteArray) (ds : List Int) (w : World) (hs : s.data.toList = rowB ds) (hd : ∀ d ∈ ds, hexB d = true) (h1 : 1 ≤ ds.length) (h6 : ds.length ≤ 6) :
 Calls Tryz.prog 200 #[.string s, .int .i64 16, .int .i64 64] w fun e w' => e = .returned (.tuple #[.int .i64 (hexVal ds), .nilIface]) ∧ Below w.heap.size w w' := by
 have HU := Lib.hid (parse_uint s ds w hs hd h1 h6)
 have hsz : s.size = ds.length := by have h2 := congrArg List.length hs; rw [rowB, List.length_map, Array.length_toList] at h2; exact h2
 have hne : (s.toList == []) = false := by
  rw [beq_eq_false_iff_ne, Lib.toList_data]
  intro e
  have := congrArg List.length e
  rw [Array.length_toList] at this
  have h2 : s.size = 0 := this
  omega
 obtain ⟨d, hd0⟩ : ∃ z, ds[0]? = some z := ⟨_, List.getElem?_eq_getElem (by omega)⟩
 have hh := hd d (List.mem_of_getElem? hd0)
 have hr : (48 ≤ d ∧ d ≤ 57) ∨ (97 ≤ d ∧ d ≤ 102) ∨ (65 ≤ d ∧ d ≤ 70) := by
  unfold hexB at hh
  simpa only [Bool.or_eq_true, Bool.and_eq_true, decide_eq_true_eq] using hh
 have hix : ∀ W : World, (Instr.index 9 (.string s) (.int .i64 0)).run Tryz.prog W = .ok (.int .u8 d) W := fun W => by
  rw [run_index_string W _ s _ _ Tryz.underlying9, dif_pos ⟨by omega, by omega⟩]
  have e : s.data.toList[0]? = some (UInt8.ofNat d.toNat) := by rw [hs]; simp [rowB, hd0]
  have h3 : s.data.toList[0]? = some (s[(0 : Nat)]'(by omega)) := by
   rw [List.getElem?_eq_getElem (by rw [Array.length_toList]; show 0 < s.size; omega)]
   rfl
  rw [h3] at e
  injection e with e
  simp only [Int.toNat_zero]
  rw [e]
  congr 2
  simp
  omega
 have h43 : (d == 43) = false := by simp; omega
 have h45 : (d == 45) = false := by simp; omega
 obtain ⟨x0, x1⟩ := hexVal_small hd h6
 have hmx : IntKind.u64.wrap 9223372036854775808 = 9223372036854775808 := by decide
 generalize hexVal ds = X at *
 clear hs hd hd0 hh hr
 go_enter Tryz.func200, Tryz.ntmps200
 go_wp2_with fail
 refine HU.out.mono ?_
 rintro e w1 ⟨rfl, hb⟩
 have HB := Lib.hid hb
 clear hb
 go_wp2_with fail
 go_ret2
 exact ⟨rfl, HB.out⟩
set_option maxHeartbeats 1600000 in
theorem parse_int (s : ByteArray) (ds : List Int) (w : World) (hs : s.data.toList = rowB ds) (hd : ∀ d ∈ ds, hexB d = true) (h1 : 1 ≤ ds.length) (h6 : ds.length ≤ 6) :
 Calls Tryz.prog 186 #[.string s, .int .i64 16, .int .i64 64] w fun e w' => e = .returned (.tuple #[.int .i64 (hexVal ds), .nilIface]) ∧ Below w.heap.size w w' := by
 have HI := Lib.hid (parse_int_in s ds w hs hd h1 h6)
 generalize hexVal ds = X at *
 clear hs hd
 go_enter Tryz.func186, Tryz.ntmps186
 go_wp2_with fail
 refine HI.out.mono ?_
 rintro e w1 ⟨rfl, hb⟩
 have HB := Lib.hid hb
 clear hb
 go_wp2_with fail
 go_ret2
 exact ⟨rfl, HB.out⟩
end Go.Proofs.YthnhbcohfoodlaaGreatDoor

namespace Go.Proofs.YthnhbcohfoodlaaGreatDoor
open Go.RowKit
def notGo (a : Int) : Spans → Spans
 | [] => if a ≤ 1114111 then [(a, 1114111)] else []
 | x :: s => (if a < x.1 then [(a, x.1 - 1)] else []) ++ notGo (x.2 + 1) s
theorem notGo_is (s : Spans) : ∀ a, 0 ≤ a → Canon s → (∀ x ∈ s, a ≤ x.1) → Canon (notGo a s) ∧ (∀ y ∈ notGo a s, a ≤ y.1) ∧ ∀ r, a ≤ r → r ≤ 1114111 → hasP (notGo a s) r = !hasP s r := by
 induction s with
 | nil =>
   intro a h0 _ _
   unfold notGo
   split
   ·rename_i h
    refine ⟨⟨by simp; omega, List.pairwise_singleton _ _⟩, by simp, fun r h1 h2 => ?_⟩
    simp [hasP]
    omega
   ·exact ⟨Canon.nil, by simp, fun r h1 h2 => by omega⟩
 | cons x s ih =>
   intro a h0 hc hl
   have hx := hc.each x List.mem_cons_self
   have hax := hl x List.mem_cons_self
   have hlow := hc.low
   obtain ⟨i1, i2, i3⟩ := ih (x.2 + 1) (by omega) hc.tail (fun y hy => by have := hlow y hy; omega)
   have key : ∀ r, x.1 ≤ r → r ≤ 1114111 → hasP (notGo (x.2 + 1) s) r = !hasP (x :: s) r := by
    intro r h1 h2
    rw [hasP_cons]
    by_cases hr : r ≤ x.2
    ·rw [hasP_low (s := notGo (x.2 + 1) s) (m := x.2) (fun y hy => by have := i2 y hy; omega) hr]
     simp [h1, hr]
    ·rw [i3 r (by omega) h2]
     simp [hr]
   unfold notGo
   split
   ·rename_i h
    refine ⟨⟨fun y hy => ?_, ?_⟩, fun y hy => ?_, fun r h1 h2 => ?_⟩
    ·rcases List.mem_append.1 hy with hy | hy
     ·rw [List.mem_singleton.1 hy]; simp only; omega
     ·exact i1.each y hy
    ·rw [List.pairwise_append]
     refine ⟨List.pairwise_singleton _ _, i1.rise, fun p hp q hq => ?_⟩
     rw [List.mem_singleton.1 hp]
     have := i2 q hq
     simp only
     omega
    ·rcases List.mem_append.1 hy with hy | hy
     ·rw [List.mem_singleton.1 hy]; exact Int.le_refl _
     ·have := i2 y hy; omega
    ·rw [hasP_append]
     by_cases hr : x.1 ≤ r
     ·rw [key r hr h2]
      simp [hasP]
      omega
     ·rw [hasP_low (s := notGo (x.2 + 1) s) (m := x.2) (fun y hy => by have := i2 y hy; omega) (by omega), hasP_cons x s, hasP_low (s := s) (m := x.2 + 1) hlow (by omega)]
      rw [decide_eq_false hr]
      simp [hasP]
      omega
   ·refine ⟨i1, fun y hy => by have := i2 y hy; omega, fun r h1 h2 => ?_⟩
    rw [List.nil_append]
    exact key r (by omega) h2
def notP (s : Spans) : Spans := notGo 0 s
theorem notP_is {s : Spans} (h : Canon s) : Canon (notP s) ∧ ∀ r, 0 ≤ r → r ≤ 1114111 → hasP (notP s) r = !hasP s r :=
 let ⟨h1, _, h3⟩ := notGo_is s 0 (Int.le_refl _) h (fun x hx => (h.each x hx).1)
 ⟨h1, h3⟩
def meetP : Spans → Spans → Spans
 | [], _ => []
 | _ :: _, [] => []
 | x :: a, y :: b => (if max x.1 y.1 ≤ min x.2 y.2 then [(max x.1 y.1, min x.2 y.2)] else []) ++ (if x.2 < y.2 then meetP a (y :: b) else meetP (x :: a) b)
termination_by a b => a.length + b.length
theorem meetP_nil (b : Spans) : meetP [] b = [] := by unfold meetP; rfl
theorem meetP_nil2 (a : Spans) : meetP a [] = [] := by cases a <;> unfold meetP <;> rfl
theorem meetP_cons (x y : Int × Int) (a b : Spans) : meetP (x :: a) (y :: b) = (if max x.1 y.1 ≤ min x.2 y.2 then [(max x.1 y.1, min x.2 y.2)] else []) ++ (if x.2 < y.2 then meetP a (y :: b) else meetP (x :: a) b) := by
 rw [meetP]
theorem meet_all (n : Nat) : ∀ a b : Spans, a.length + b.length ≤ n → Canon a → Canon b →
 (meetP a b).length ≤ a.length + b.length ∧ Canon (meetP a b) ∧ (∀ z ∈ meetP a b, (∃ x ∈ a, x.1 ≤ z.1) ∧ ∃ y ∈ b, y.1 ≤ z.1) ∧ ∀ r, hasP (meetP a b) r = (hasP a r && hasP b r) := by
 induction n with
 | zero =>
   intro a b hn _ _
   obtain rfl : a = [] := List.eq_nil_of_length_eq_zero (by omega)
   rw [meetP_nil]
   exact ⟨Nat.zero_le _, Canon.nil, by simp, fun r => by simp [hasP]⟩
 | succ n ih =>
   intro a b hn ha hb
   cases a with
   | nil => rw [meetP_nil]; exact ⟨Nat.zero_le _, Canon.nil, by simp, fun r => by simp [hasP]⟩
   | cons x a =>
     cases b with
     | nil => rw [meetP_nil2]; exact ⟨Nat.zero_le _, Canon.nil, by simp, fun r => by simp [hasP]⟩
     | cons y b =>
       have hx := ha.each x List.mem_cons_self
       have hy := hb.each y List.mem_cons_self
       have la := ha.low
       have lb := hb.low
       rw [List.length_cons, List.length_cons] at hn
       rw [meetP_cons]
       by_cases h : x.2 < y.2
       ·rw [if_pos h]
        obtain ⟨i0, i1, i2, i3⟩ := ih a (y :: b) (by rw [List.length_cons]; omega) ha.tail hb
        rw [List.length_cons] at i0
        have hlow : ∀ z ∈ meetP a (y :: b), x.2 + 1 < z.1 := fun z hz => by
         obtain ⟨⟨p, hp, h1⟩, _⟩ := i2 z hz
         have := la p hp
         omega
        have hmin : min x.2 y.2 = x.2 := by omega
        rw [hmin]
        refine ⟨?_, ?_, fun z hz => ?_, fun r => ?_⟩
        ·rw [List.length_append, List.length_cons, List.length_cons]; split <;> simp <;> omega
        ·split
         ·rename_i hm
          refine ⟨fun z hz => ?_, ?_⟩
          ·rcases List.mem_append.1 hz with hz | hz
           ·rw [List.mem_singleton.1 hz]; simp only; omega
           ·exact i1.each z hz
          ·rw [List.pairwise_append]
           refine ⟨List.pairwise_singleton _ _, i1.rise, fun p hp q hq => ?_⟩
           rw [List.mem_singleton.1 hp]
           exact hlow q hq
         ·exact i1
        ·rcases List.mem_append.1 hz with hz | hz
         ·split at hz
          ·rw [List.mem_singleton.1 hz]
           exact ⟨⟨x, List.mem_cons_self, by simp only; omega⟩, y, List.mem_cons_self, by simp only; omega⟩
          ·simp at hz
         ·obtain ⟨⟨p, hp, h1⟩, h2⟩ := i2 z hz
          exact ⟨⟨p, List.mem_cons_of_mem _ hp, h1⟩, h2⟩
        ·rw [hasP_append, i3, hasP_cons x a]
         have e1 : hasP (if max x.1 y.1 ≤ x.2 then [(max x.1 y.1, x.2)] else []) r = ((decide (x.1 ≤ r) && decide (r ≤ x.2)) && decide (y.1 ≤ r)) := by
          split
          ·rw [Bool.eq_iff_iff]; simp [hasP]; omega
          ·rw [Bool.eq_iff_iff]; simp [hasP]; omega
         rw [e1]
         by_cases hr : r ≤ x.2
         ·rw [hasP_low (s := a) (m := x.2 + 1) la (by omega), hasP_cons y b, hasP_low (s := b) (m := y.2 + 1) lb (by omega)]
          rw [Bool.eq_iff_iff]; simp; omega
         ·simp [hr]
       ·rw [if_neg h]
        obtain ⟨i0, i1, i2, i3⟩ := ih (x :: a) b (by rw [List.length_cons]; omega) ha hb.tail
        rw [List.length_cons] at i0
        have hlow : ∀ z ∈ meetP (x :: a) b, y.2 + 1 < z.1 := fun z hz => by
         obtain ⟨_, ⟨p, hp, h1⟩⟩ := i2 z hz
         have := lb p hp
         omega
        have hmin : min x.2 y.2 = y.2 := by omega
        rw [hmin]
        refine ⟨?_, ?_, fun z hz => ?_, fun r => ?_⟩
        ·rw [List.length_append, List.length_cons, List.length_cons]; split <;> simp <;> omega
        ·split
         ·rename_i hm
          refine ⟨fun z hz => ?_, ?_⟩
          ·rcases List.mem_append.1 hz with hz | hz
           ·rw [List.mem_singleton.1 hz]; simp only; omega
           ·exact i1.each z hz
          ·rw [List.pairwise_append]
           refine ⟨List.pairwise_singleton _ _, i1.rise, fun p hp q hq => ?_⟩
           rw [List.mem_singleton.1 hp]
           exact hlow q hq
         ·exact i1
        ·rcases List.mem_append.1 hz with hz | hz
         ·split at hz
          ·rw [List.mem_singleton.1 hz]
           exact ⟨⟨x, List.mem_cons_self, by simp only; omega⟩, y, List.mem_cons_self, by simp only; omega⟩
          ·simp at hz
         ·obtain ⟨h1, ⟨p, hp, h2⟩⟩ := i2 z hz
          exact ⟨h1, p, List.mem_cons_of_mem _ hp, h2⟩
        ·rw [hasP_append, i3, hasP_cons y b]
         have e1 : hasP (if max x.1 y.1 ≤ y.2 then [(max x.1 y.1, y.2)] else []) r = ((decide (y.1 ≤ r) && decide (r ≤ y.2)) && decide (x.1 ≤ r)) := by
          split
          ·rw [Bool.eq_iff_iff]; simp [hasP]; omega
          ·rw [Bool.eq_iff_iff]; simp [hasP]; omega
         rw [e1]
         by_cases hr : r ≤ y.2
         ·rw [hasP_low (s := b) (m := y.2 + 1) lb (by omega), hasP_cons x a, hasP_low (s := a) (m := x.2 + 1) la (by omega)]
          rw [Bool.eq_iff_iff]; simp; omega
         ·simp [hr]
theorem meetP_is {a b : Spans} (ha : Canon a) (hb : Canon b) : (meetP a b).length ≤ a.length + b.length ∧ Canon (meetP a b) ∧ ∀ r, hasP (meetP a b) r = (hasP a r && hasP b r) :=
 let ⟨h0, h1, _, h3⟩ := meet_all _ a b (Nat.le_refl _) ha hb
 ⟨h0, h1, h3⟩
def mergeStep (out : Spans) (x : Int × Int) : Spans :=
 match out.getLast? with
 | some k => if x.1 ≤ k.2 + 1 then out.dropLast ++ [(k.1, max k.2 x.2)] else out ++ [x]
 | none => out ++ [x]
theorem mergeStep_nil (x : Int × Int) : mergeStep [] x = [x] := rfl
theorem mergeStep_snoc (i : Spans) (k x : Int × Int) : mergeStep (i ++ [k]) x = if x.1 ≤ k.2 + 1 then i ++ [(k.1, max k.2 x.2)] else i ++ [k] ++ [x] := by
 unfold mergeStep
 simp
def mergedP (l : Spans) : Spans := l.foldl mergeStep []
theorem mergeStep_is {out : Spans} {x : Int × Int} (h : Canon out) (hx : 0 ≤ x.1 ∧ x.1 ≤ x.2 ∧ x.2 ≤ 1114111) (hl : ∀ y ∈ out, y.1 ≤ x.1) :
 Canon (mergeStep out x) ∧ (∀ y ∈ mergeStep out x, y.1 ≤ x.1) ∧ (mergeStep out x).length ≤ out.length + 1 ∧ ∀ r, hasP (mergeStep out x) r = (hasP out r || (decide (x.1 ≤ r) && decide (r ≤ x.2))) := by
 rcases List.eq_nil_or_concat out with rfl | ⟨i, k, rfl⟩
 ·rw [mergeStep_nil]
  exact ⟨⟨by simpa using hx, List.pairwise_singleton _ _⟩, by simp, by simp, fun r => by simp [hasP]⟩
 ·rw [List.concat_eq_append] at h hl ⊢
  obtain ⟨hi, hk, hik⟩ := snoc_canon h
  have hkx := hl k (by simp)
  rw [mergeStep_snoc]
  by_cases he : x.1 ≤ k.2 + 1
  ·rw [if_pos he]
   refine ⟨canon_snoc hi ⟨hk.1, by simp only; omega, by simp only; omega⟩ hik, fun y hy => ?_, by simp, fun r => ?_⟩
   ·rcases List.mem_append.1 hy with hy | hy
    ·exact hl y (by simp [hy])
    ·rw [List.mem_singleton.1 hy]; exact hkx
   ·rw [hasP_append, hasP_append, Bool.or_assoc]
    congr 1
    simp only [hasP, List.any_cons, List.any_nil, Bool.or_false]
    rw [Bool.eq_iff_iff]
    simp
    omega
  ·rw [if_neg he]
   refine ⟨canon_snoc h hx (fun y hy => ?_), fun y hy => ?_, by simp, fun r => ?_⟩
   ·rcases List.mem_append.1 hy with hy | hy
    ·have := hik y hy; omega
    ·rw [List.mem_singleton.1 hy]; omega
   ·rcases List.mem_append.1 hy with hy | hy
    ·exact hl y hy
    ·rw [List.mem_singleton.1 hy]; exact Int.le_refl _
   ·rw [hasP_append]
    congr 1
    simp [hasP]
theorem merge_go (l : Spans) : ∀ out : Spans, Canon out → (∀ x ∈ l, 0 ≤ x.1 ∧ x.1 ≤ x.2 ∧ x.2 ≤ 1114111) → l.Pairwise (fun a b => a.1 ≤ b.1) → (∀ y ∈ out, ∀ x ∈ l, y.1 ≤ x.1) →
 Canon (l.foldl mergeStep out) ∧ (l.foldl mergeStep out).length ≤ out.length + l.length ∧ ∀ r, hasP (l.foldl mergeStep out) r = (hasP out r || hasP l r) := by
 induction l with
 | nil => intro out h _ _ _; exact ⟨h, Nat.le_refl _, fun r => by simp [hasP]⟩
 | cons x l ih =>
   intro out h hv hs hl
   rw [List.pairwise_cons] at hs
   obtain ⟨m1, m2, m3, m4⟩ := mergeStep_is h (hv x List.mem_cons_self) (fun y hy => hl y hy x List.mem_cons_self)
   obtain ⟨i1, i2, i3⟩ := ih (mergeStep out x) m1 (fun y hy => hv y (List.mem_cons_of_mem _ hy)) hs.2 (fun y hy z hz => by have := m2 y hy; have := hs.1 z hz; omega)
   rw [List.foldl_cons, List.length_cons]
   refine ⟨i1, by omega, fun r => ?_⟩
   rw [i3, m4, hasP_cons, Bool.or_assoc]
theorem mergedP_is {l : Spans} (hv : ∀ x ∈ l, 0 ≤ x.1 ∧ x.1 ≤ x.2 ∧ x.2 ≤ 1114111) (hs : l.Pairwise (fun a b => a.1 ≤ b.1)) : Canon (mergedP l) ∧ (mergedP l).length ≤ l.length ∧ ∀ r, hasP (mergedP l) r = hasP l r := by
 obtain ⟨h1, h2, h3⟩ := merge_go l [] Canon.nil hv hs (by simp)
 exact ⟨h1, by rw [mergedP]; simpa using h2, fun r => by rw [mergedP, h3]; simp [hasP]⟩
theorem hasP_perm {a b : Spans} (h : a.Perm b) (r : Int) : hasP a r = hasP b r := by
 rw [Bool.eq_iff_iff, hasP_iff, hasP_iff]
 exact ⟨fun ⟨x, hx, h1⟩ => ⟨x, h.mem_iff.1 hx, h1⟩, fun ⟨x, hx, h1⟩ => ⟨x, h.mem_iff.2 hx, h1⟩⟩
def fitP (s : Spans) : Spans × Int := if 200 < s.length then ([], 5) else (s, 0)
theorem union_is {a b l : Spans} (ha : RightSet a) (hb : RightSet b) (hp : (a ++ b).Perm l) (hs : l.Pairwise (fun a b => a.1 ≤ b.1)) : opP 124 a b = fitP (mergedP l) := by
 obtain ⟨h1, _, h3⟩ := mergedP_is (l := l) (fun x hx => by
  rcases List.mem_append.1 (hp.mem_iff.2 hx) with h | h
  ·exact ha.each x h
  ·exact hb.each x h) hs
 refine op_is (by decide) ha hb h1 fun r _ _ => ?_
 rw [h3, ← hasP_perm hp, hasP_append]
 simp [doHolds]
theorem meet_is {a b : Spans} (ha : RightSet a) (hb : RightSet b) : opP 38 a b = fitP (meetP a b) := by
 obtain ⟨_, h1, h3⟩ := meetP_is ha.canon hb.canon
 refine op_is (by decide) ha hb h1 fun r _ _ => ?_
 rw [h3]
 simp [doHolds]
theorem minus_is {a b : Spans} (ha : RightSet a) (hb : RightSet b) : opP 45 a b = fitP (meetP a (notP b)) := by
 obtain ⟨n1, n2⟩ := notP_is hb.canon
 obtain ⟨_, h1, h3⟩ := meetP_is ha.canon n1
 refine op_is (by decide) ha hb h1 fun r h0 h2 => ?_
 rw [h3, n2 r h0 h2]
 simp [doHolds]
theorem compl_is {a : Spans} (ha : RightSet a) (b : Spans) : opP 94 a b = fitP (notP a) := by
 obtain ⟨n1, n2⟩ := notP_is ha.canon
 exact not_is ha n1 n2 b
end Go.Proofs.YthnhbcohfoodlaaGreatDoor
