/- SynMono + RunesText + SpanRef + RefSmall + One -/
import Derived.Test.YthnhbcohfoodlaaGreatDoorZq7
import Derived.Laws.Cover4
import Derived.Laws.Runes
import Derived.Test.YthnhbcohfoodlaaGreatDoorZq2
import Derived.WalkMore
import Derived.Test.YthnhbcohfoodlaaGreatDoorZq6
import Derived.Deep.QuietTactic
import Derived.BigQuiet
set_option maxHeartbeats 1600000
set_option maxRecDepth 100000
namespace Go.Proofs.YthnhbcohfoodlaaGreatDoor
open Go.RowKit
theorem dX {L : List Int} {i j : Nat} {r : Int} (h : aH L i r = .ok j) : j = i + 1 ∧ pk L i = r := by
 unfold aH at h;split at h
 ·rename_i hp; injection h with h; exact ⟨h.symm, hp⟩
 cases h
theorem Eg {L : List Int} {i : Nat} {r : Int} (h : pk L i = r) : aH L i r = .ok (i + 1) := by unfold aH; rw [if_pos h]
theorem uG {L : List Int} {i : Nat} {r : Int} (h : pk L i ≠ r) : aH L i r = .error (2, i) := by unfold aH; rw [if_neg h]
theorem ei (p : Int → Bool) (L : List Int) (i : Nat) : i ≤ aq p L i := by unfold aq; omega
theorem cL (L : List Int) (i : Nat) : i ≤ aG L i := ei _ _ _
def bY (L : List Int) : Prop := ∀ x ∈ L, 0 ≤ x ∧ x ≤ 1114111
theorem jf {L : List Int} (h : bY L) (i : Nat) : pk L i = -1 ∨ (0 ≤ pk L i ∧ pk L i ≤ 1114111) := by
 unfold pk;cases hi : L[i]? with
 | none => exact .inl rfl
 | some x => exact .inr (h x (List.mem_of_getElem? hi))
theorem BD {L : List Int} (h : bY L) {i : Nat} (h0 : pk L i ≠ -1) : 0 ≤ pk L i ∧ pk L i ≤ 1114111 := by
 rcases jf h i with h1 | h1;exact absurd h1 h0;exact h1
theorem sq {d : Int} (h : ct d = true) : 0 ≤ iE d ∧ iE d ≤ 15 := by
 unfold ct at h;unfold iE;simp only [Bool.or_eq_true, Bool.and_eq_true, decide_eq_true_eq] at h;split;omega;split <;> omega
theorem mS (ds : List Int) : ∀ x : Int, 0 ≤ x → (∀ d ∈ ds, ct d = true) → 0 ≤ ds.foldl (fun x d => 16 * x + iE d) x ∧ ds.foldl (fun x d => 16 * x + iE d) x < (x + 1) * 16 ^ ds.length := by
 induction ds with
 | nil => intro x h _; simp; omega
 | cons d ds ih =>
  intro x hx hd;have h1 := sq (hd d List.mem_cons_self);obtain ⟨i1, i2⟩ := ih (16 * x + iE d) (by omega) (fun y hy => hd y (List.mem_cons_of_mem _ hy));rw [List.foldl_cons, List.length_cons];refine ⟨i1, Int.lt_of_lt_of_le i2 ?_⟩;have e : (16 : Int) ^ (ds.length + 1) = 16 * 16 ^ ds.length := (by rw [Int.pow_succ, Int.mul_comm]);rw [e, ← Int.mul_assoc];exact Int.mul_le_mul_of_nonneg_right (by omega) (Int.pow_nonneg (by decide))
theorem mM {p : Int → Bool} (l : List Int) : ∀ x ∈ l.takeWhile p, p x = true := by
 induction l with
 | nil => simp
 | cons a l ih =>
  intro x hx;rw [List.takeWhile_cons] at hx;split at hx
  ·rcases List.mem_cons.1 hx with rfl | hx;assumption;exact ih x hx
  simp at hx
theorem rm (p : Int → Bool) (L : List Int) (i : Nat) : ay L i (aq p L i) = (L.drop i).takeWhile p := by
 unfold ay aq;rw [Nat.add_sub_cancel_left];have h := (List.takeWhile_prefix p (l := L.drop i));exact (List.prefix_iff_eq_take.1 h).symm
theorem wj (L : List Int) (i : Nat) (h : aq ct L i - i ≤ 6) : 0 ≤ dg (ay L i (aq ct L i)) ∧ dg (ay L i (aq ct L i)) < 16777216 := by
 rw [rm];obtain ⟨h1, h2⟩ := mS ((L.drop i).takeWhile ct) 0 (Int.le_refl _) (mM _);refine ⟨h1, Int.lt_of_lt_of_le h2 ?_⟩;have hl : ((L.drop i).takeWhile ct).length ≤ 6 := (by unfold aq at h; omega);generalize ((L.drop i).takeWhile ct).length = k at hl;have : k = 0 ∨ k = 1 ∨ k = 2 ∨ k = 3 ∨ k = 4 ∨ k = 5 ∨ k = 6 := (by omega);rcases this with rfl | rfl | rfl | rfl | rfl | rfl | rfl <;> decide
theorem Gy {L : List Int} {i j : Nat} {x : Int} (h : gp L i = .ok (x, j)) : i < j ∧ 0 ≤ x ∧ x ≤ 1114111 := by
 unfold gp at h;cases h1 : aH L (i + 1) 123 with
 | error e => rw [h1] at h; cases h
 | ok a =>
  rw [h1] at h;simp only at h;split at h
  ·cases h
  rename_i hn;rw [not_or] at hn;have ha := (dX h1).1;cases h2 : aH L (aq ct L a) 125 with
  | error e => rw [h2] at h; cases h
  | ok b =>
   rw [h2] at h;simp only at h;have hb := (dX h2).1;have := ei ct L a;have hr := wj L a (by omega);split at h
   ·cases h
   injection h with h;injection h with h3 h4;omega
theorem lO {L : List Int} (hL : bY L) {i j : Nat} {x : Int} (h : bU L i = .ok (x, j)) : i < j ∧ 0 ≤ x ∧ x ≤ 1114111 := by
 unfold bU at h;split at h
 ·rename_i hp;injection h with h;injection h with h1 h2;have : pk L i ≠ -1 := fun e => (by rw [e] at hp; exact absurd hp (by decide));have := BD hL this;omega
 split at h
 ·cases h
 split at h
 ·injection h with h; injection h with h1 h2; omega
 split at h
 ·injection h with h; injection h with h1 h2; omega
 split at h
 ·have := Gy h; omega
 split at h
 ·cases h
 rename_i hn;rw [not_or] at hn;injection h with h;injection h with h1 h2;have := jf hL (i + 1);omega
theorem DW {L : List Int} (hL : bY L) {i j : Nat} {x : Int × Int} (h : iw L i = .ok (x, j)) : i < j ∧ 0 ≤ x.1 ∧ x.1 ≤ x.2 ∧ x.2 ≤ 1114111 := by
 unfold iw at h;cases h1 : bU L i with
 | error e => rw [h1] at h; cases h
 | ok p =>
  obtain ⟨low, a⟩ := p;rw [h1] at h;have ha := lO hL h1;simp only at h;split at h
  ·cases h2 : bU L (a + 1) with
   | error e => rw [h2] at h; cases h
   | ok q =>
    obtain ⟨high, b⟩ := q;rw [h2] at h;have hb := lO hL h2;simp only at h;split at h
    ·cases h
    injection h with h;injection h with h3 h4;subst h3;simp only;omega
  injection h with h;injection h with h3 h4;subst h3;simp only;omega
theorem Bf {x : Int × Int} (h : 0 ≤ x.1 ∧ x.1 ≤ x.2 ∧ x.2 ≤ 1114111) : aK [x] := ⟨by simp, by simpa using h, List.pairwise_singleton _ _⟩
theorem dR : aK [] := ⟨Nat.zero_le _, by simp, List.Pairwise.nil⟩
theorem pX {n : List Int} {s : ag} (h : eO n = some s) : aK s := by
 have key : ∀ s : ag, cU s = 0 → aK s := fun _ => Ca;unfold eO at h;(repeat' (split at h));(all_goals first | (injection h with h; subst h; exact key _ (by decide)) | cases h)
theorem Bi {L : List Int} {i j : Nat} {s : ag} (h : dN L i = .ok (s, j)) : i < j ∧ aK s := by
 unfold dN at h;cases h0 : eO (ay L (i + 2) (aq bL L (i + 2))) with
 | none => rw [h0] at h; cases h
 | some t =>
  rw [h0] at h;simp only at h;cases h1 : aH L (aq bL L (i + 2)) 58 with
  | error e => rw [h1] at h; cases h
  | ok a =>
   rw [h1] at h;simp only at h;cases h2 : aH L a 93 with
   | error e => rw [h2] at h; cases h
   | ok b =>
    rw [h2] at h;simp only at h;injection h with h;injection h with h3 h4;subst h3;have := ei bL L (i + 2);have := (dX h1).1;have := (dX h2).1;exact ⟨by omega, pX h0⟩
def wG (inner : Nat → fH ag) : Prop := ∀ i s j, inner i = .ok (s, j) → i < j ∧ aK s
theorem sM {inner : Nat → fH ag} (hi : wG inner) {L : List Int} (hL : bY L) {i j : Nat} {s : ag} (h : bZ inner L i = .ok (s, j)) : i < j ∧ aK s := by
 unfold bZ at h;split at h;exact Bi h;split at h;exact hi _ _ _ h;split at h
 ·have := hi _ _ _ h;have h2 := cL L (i + 1);exact ⟨by omega, this.2⟩
 cases h1 : iw L i with
 | error e => rw [h1] at h; cases h
 | ok p =>
  obtain ⟨x, a⟩ := p;rw [h1] at h;simp only at h;injection h with h;injection h with h3 h4;subst h3;have := DW hL h1;exact ⟨by omega, Bf this.2⟩
theorem BK {inner : Nat → fH ag} (hi : wG inner) {L : List Int} (hL : bY L) : ∀ (f i j : Nat) (cur s : ag), aK cur → cH inner L f i cur = .ok (s, j) → i < j ∧ aK s := by
 intro f;induction f with
 | zero => intro i j cur s _ h; unfold cH at h; cases h
 | succ f ih =>
  intro i j cur s hc h;rw [cH] at h;have h0 := cL L i;split at h
  ·injection h with h;injection h with h3 h4;subst h3;exact ⟨by omega, hc⟩
  cases h1 : bZ inner L (aG L i) with
  | error e => rw [h1] at h; cases h
  | ok p =>
   obtain ⟨t, a⟩ := p;rw [h1] at h;simp only at h;have hp := sM hi hL h1;split at h
   ·cases h
   have := ih _ _ _ _ (fI _ hc hp.2) h;exact ⟨by omega, this.2⟩
theorem iQ {L : List Int} (hL : bY L) : ∀ n, wG (aR L n) := by
 intro n;induction n with
 | zero => intro i s j h; unfold aR at h; cases h
 | succ n ih =>
  intro i s j h;rw [aR] at h;cases h1 : aH L i 91 with
  | error e => rw [h1] at h; cases h
  | ok a =>
   rw [h1] at h;simp only at h;have ha := (dX h1).1;cases h2 : cH (aR L n) L (L.length + 1) (if pk L a = 94 then a + 1 else a) [] with
   | error e => rw [h2] at h; cases h
   | ok p =>
    obtain ⟨cur, k⟩ := p;rw [h2] at h;simp only at h;obtain ⟨g1, g2⟩ := BK ih hL _ _ _ _ _ dR h2;have hk : i < k := (by split at g1 <;> omega);split at h
    ·split at h
     ·cases h
     injection h with h;injection h with h3 h4;subst h3 h4;exact ⟨hk, fI _ g2 dR⟩
    injection h with h;injection h with h3 h4;subst h3 h4;exact ⟨hk, g2⟩
theorem rK {inner : Nat → fH ag} {L : List Int} {f i : Nat} {cur : ag} (h : pk L (aG L i) = 93) : cH inner L (f + 1) i cur = .ok (cur, aG L i + 1) := by rw [cH, if_pos h]
theorem hJ {inner : Nat → fH ag} {L : List Int} {f i : Nat} {cur : ag} {e : Int × Nat} (h : pk L (aG L i) ≠ 93) (he : bZ inner L (aG L i) = .error e) : cH inner L (f + 1) i cur = .error e := by rw [cH, if_neg h, he]
theorem gh {inner : Nat → fH ag} {L : List Int} {f i j : Nat} {cur s : ag} (h : pk L (aG L i) ≠ 93) (he : bZ inner L (aG L i) = .ok (s, j)) :
    cH inner L (f + 1) i cur = if (gS (kT (pk L (aG L i))) cur s).2 ≠ 0 then .error ((gS (kT (pk L (aG L i))) cur s).2, j) else cH inner L f j (gS (kT (pk L (aG L i))) cur s).1 := by rw [cH, if_neg h, he]
def cO (l : List Int) : Prop := ∀ x ∈ l, 0 ≤ x ∧ x < 128
def lK (l : List Int) : List UInt8 := l.map fun x => UInt8.ofNat x.toNat
theorem nk {r : Int} (h0 : 0 ≤ r) (h1 : r < 128) : (Utf8.encode r).data.toList = [UInt8.ofNat r.toNat] := by
 have hv : Utf8.valid r = true := (by simp [Utf8.valid]; omega);unfold Utf8.encode;simp only [hv, if_true];rw [if_pos (by omega)]
theorem xj {r : Int} (h : ¬ (0 ≤ r ∧ r < 128)) : ∃ b ∈ (Utf8.encode r).data.toList, 128 ≤ b.toNat := by
 cases hv : Utf8.valid r
 ·have : Utf8.encode r = Utf8.encode 65533 := by
   unfold Utf8.encode;simp only [hv, show Utf8.valid 65533 = true from by decide];rfl
  rw [this];exact ⟨239, by decide, by decide⟩
 have h128 : 128 ≤ r := by
  simp [Utf8.valid] at hv;omega
 obtain ⟨h1, _, h3⟩ := encode_facts r hv h128;exact ⟨_, Array.getElem_mem_toList (xs := (Utf8.encode r).data) (by simpa using (show (Utf8.encode r).size - 1 < (Utf8.encode r).size by omega)), h3 (by omega)⟩
theorem tZ (l : List Int) : ∀ s : ByteArray, (l.foldl (fun r n => r ++ Utf8.encode n) s).data.toList = s.data.toList ++ l.flatMap fun r => (Utf8.encode r).data.toList := by
 induction l with
 | nil => intro s; simp
 | cons x l ih => intro s; rw [List.foldl_cons, ih, List.flatMap_cons]; simp
theorem iJ (l : List Int) : (runesBytes l).data.toList = l.flatMap fun r => (Utf8.encode r).data.toList := by
 rw [runesBytes, tZ]; rfl
theorem ez {l : List Int} (h : cO l) : (runesBytes l).data.toList = lK l := by
 rw [iJ];induction l with
 | nil => rfl
 | cons x l ih =>
  have hx := h x List.mem_cons_self;rw [List.flatMap_cons, nk hx.1 hx.2, ih (fun y hy => h y (List.mem_cons_of_mem _ hy))];rfl
theorem DS : ∀ {a b : List Int}, cO a → cO b → lK a = lK b → a = b := by
 intro a;induction a with
 | nil => intro b _ _ h; cases b with
   | nil => rfl
   | cons y b => cases h
 | cons x a ih =>
  intro b ha hb h;cases b with
  | nil => cases h
  | cons y b =>
   unfold lK at h;rw [List.map_cons, List.map_cons] at h;injection h with h1 h2;have hx := ha x List.mem_cons_self;have hy := hb y List.mem_cons_self;have h3 := congrArg UInt8.toNat h1;simp at h3;obtain rfl : x = y := (by omega);rw [ih (fun z hz => ha z (List.mem_cons_of_mem _ hz)) (fun z hz => hb z (List.mem_cons_of_mem _ hz)) h2]
theorem tL {l m : List Int} (hm : cO m) (h : runesBytes l = runesBytes m) : l = m := by
 have e : (runesBytes l).data.toList = lK m := (by rw [h, ez hm]);have hl : cO l := by
  intro x hx;by_cases h1 : 0 ≤ x ∧ x < 128;exact h1;exfalso;obtain ⟨b, hb, h2⟩ := xj h1;have : b ∈ lK m := (by rw [← e, iJ]; exact List.mem_flatMap.2 ⟨x, hx, hb⟩);unfold lK at this;obtain ⟨y, hy, rfl⟩ := List.mem_map.1 this;have := hm y hy;simp at h2;omega
 rw [ez hl] at e;exact DS hl hm e
theorem qD {l : List Int} (h : cO l) : (runesBytes l).size = l.length := by
 have h2 := congrArg List.length (ez h);rw [lK, List.length_map, Array.length_toList] at h2;exact h2
theorem l8 {l : List Int} (h : ∀ d ∈ l, ct d = true) : cO l := by
 intro d hd;have := h d hd;unfold ct at this;simp only [Bool.or_eq_true, Bool.and_eq_true, decide_eq_true_eq] at this;omega
theorem qf (l : List Int) (d : Int) : dg (l ++ [d]) = 16 * dg l + iE d := by unfold dg; rw [List.foldl_append]; rfl
theorem iS {l : List Int} (h : ∀ d ∈ l, ct d = true) (hl : l.length ≤ 6) : 0 ≤ dg l ∧ dg l < 16777216 := by
 obtain ⟨h1, h2⟩ := mS l 0 (Int.le_refl _) h;refine ⟨h1, Int.lt_of_lt_of_le h2 ?_⟩;generalize l.length = k at hl;have : k = 0 ∨ k = 1 ∨ k = 2 ∨ k = 3 ∨ k = 4 ∨ k = 5 ∨ k = 6 := (by omega);rcases this with rfl | rfl | rfl | rfl | rfl | rfl | rfl <;> decide
theorem kA (A : Option Addr) (n c : Nat) (l : ag) (w : World) (hn : n ≤ 9223372036854775807) (hl : kH w w.heap.size A n l) :
    Calls Tryz.prog 132 #[.slice A n c] w fun e w' => e = .returned (.int .i64 (cU l)) ∧ Below w.heap.size w w' := by
 have cn := Lib.hid hl.len;have HL := Lib.hid hl;clear hl;by_cases h2 : 200 < n
 ·have HP := Lib.hid (show cU l = 5 by unfold cU; rw [if_pos (by rw [cn.out]; exact h2)]);go_enter Tryz.func132, Tryz.ntmps132;go_wp2_with fail;go_ret;rw [HP.out];exact ⟨rfl, Below.refl _ _⟩
 have HP := Lib.hid (show cU l = fq none l by unfold cU; rw [if_neg (by rw [cn.out]; exact h2)]);go_enter Tryz.func132, Tryz.ntmps132;go_wp2_with fail;go_loopw [10] (xB w l n) (fun i _ => n - (intOf i).toNat);(case atStart => exact ⟨0, Nat.zero_le _, rfl, rfl, by simp [ew], Below.refl _ _⟩);obtain ⟨j, hj, rfl, bz, Bw, hb⟩ := hrel;have hz := hb.size;by_cases hlt : j < n
 ·obtain ⟨⟨x, y⟩, hx⟩ : ∃ z, l[j]? = some z := ⟨_, List.getElem?_eq_getElem (by rw [cn.out]; exact hlt)⟩;obtain ⟨b, off, rfl, eG, c0, c1⟩ := HL.out.at hx;have d0 := (hb.cell (p := ⟨b, off + j * 2, none⟩) eG).trans c0;have d1 := (hb.cell (p := ⟨b, off + j * 2 + 1, none⟩) eG).trans c1;rw [gE hx, fq] at bz;by_cases hr : x < 0 ∨ 1114111 < y ∨ y < x
  ·rw [if_pos hr] at bz;have HG := Lib.hid bz;have HX := Lib.hid hx;clear bz hx c0 c1 Bw;rcases (show x < 0 ∨ (0 ≤ x ∧ y < x) ∨ (0 ≤ x ∧ x ≤ y ∧ 1114111 < y) by omega) with h1 | ⟨h1, h2⟩ | ⟨h1, h2, h3⟩
   all_goals
     clear hr
     go_wp2_with fail
     go_ret
     rw [HP.out, HG.out]
     exact ⟨rfl, hb.alloc hz _⟩
  rw [if_neg hr] at bz;have uP : 0 ≤ x := (by omega);have gL : y ≤ 1114111 := (by omega);have nt : x ≤ y := (by omega);have sK : ∀ h, ew l (j + 1) = some h → h ≤ 1114111 ∧ 0 ≤ h := by
   intro h hh;simp only [ew, hx, Option.map_some, Option.some.injEq] at hh;omega
  have lg : ew l (j + 1) = some y := (by simp [ew, hx]);clear hr;cases j with
  | zero =>
   rw [if_neg (by simp [ew, ov])] at bz;rw [← lg] at bz;have HG := Lib.hid bz;have HX := Lib.hid hx;have JE := Lib.hid sK;clear bz hx c0 c1 Bw sK lg;simp only [Nat.zero_mul, Nat.add_zero] at d0 d1;go_wp2_with fail;go_quiet (fail);go_wp2_with fail;exact ⟨⟨1, by omega, by go_num, HG.out, JE.out, below_drewN (hb.alloc hz _) _⟩, by simp [intOf]; omega⟩
  | succ j =>
   obtain ⟨⟨p, h⟩, hp⟩ : ∃ z, l[j]? = some z := ⟨_, List.getElem?_eq_getElem (by rw [cn.out]; omega)⟩;have hh : ew l (j + 1) = some h := (by simp [ew, hp]);obtain ⟨TW, MR⟩ := Bw h hh;obtain ⟨b2, off2, e2, _, _, c3⟩ := HL.out.at hp;cases e2;have d3 : (wr.alloc (Obj.cells #[Value.int IntKind.i32 x, Value.int IntKind.i32 y] 74)).cell? ⟨b, off + j * 2 + 1, none⟩ = some (.int .i32 h) := ((hb.alloc hz _).cell (p := ⟨b, off + j * 2 + 1, none⟩) eG).trans c3;have hj0 : decide ((0 : Int) < (j : Int) + 1) = true := decide_eq_true (by omega);have hjn : j < n := (by omega);have Da : (j : Int) < (n : Int) := (by omega);have SI : IntKind.i64.wrap (j : Int) = (j : Int) := IntWalk.i64_in _ (by omega);rw [hh] at bz;simp only [ov, decide_eq_true_eq] at bz;by_cases ht : x ≤ h + 1
   ·rw [if_pos ht] at bz;have HG := Lib.hid bz;have HX := Lib.hid hx;have nQ := Lib.hid hp;clear bz hx c0 c1 c3 Bw sK lg hh hp;have KG : decide (x - h < 2) = true := decide_eq_true (by omega);go_wp2_with fail;go_quiet (fail);go_wp2_with fail;go_ret;rw [HP.out, HG.out];exact ⟨rfl, below_drewN (hb.alloc hz _) _⟩
   rw [if_neg ht, ← lg] at bz;have HG := Lib.hid bz;have HX := Lib.hid hx;have nQ := Lib.hid hp;have JE := Lib.hid sK;clear bz hx c0 c1 c3 Bw sK lg hh hp;have KG : decide (x - h < 2) = false := decide_eq_false (by omega);go_wp2_with fail;go_quiet (fail);go_wp2_with fail;exact ⟨⟨j + 1 + 1, by omega, by go_num, HG.out, JE.out, below_drewN (hb.alloc hz _) _⟩, by simp [intOf]; omega⟩
 obtain rfl : j = n := (by omega);rw [List.drop_of_length_le (by rw [cn.out]; omega)] at bz;have HG := Lib.hid (bz.trans (show fq (ew l j) [] = 0 from rfl));clear bz Bw;go_wp2_with fail;go_ret;rw [HP.out, HG.out];exact ⟨rfl, hb⟩
def yP : List Int := [91, 93, 38, 45, 94, 92, 58, 36, 40, 41, 123, 125, 60, 62, 124, 59, 35, 39, 34, 61, 44, 32, 9, 10]
def E6 : ByteArray := ⟨#[91, 93, 38, 45, 94, 92, 58, 36, 40, 41, 123, 125, 60, 62, 124, 59, 35, 39, 34, 61, 44, 32, 9, 10]⟩
theorem Cu : ∀ p : Nat, p < 24 → ((Utf8.decode E6 p).1 : Int) = yP.getD p 0 ∧ (Utf8.decode E6 p).2 = 1 := by decide +kernel
theorem jT {r : Int} (h : 0 ≤ r) : yP.contains r = !bL r := by
 have h1 : yP = jZ ++ [32, 9, 10] := rfl;rw [h1, List.contains_eq_any_beq, List.any_append, ← List.contains_eq_any_beq];unfold bL jq;rw [decide_eq_true h];cases hc : jZ.contains r with
 | true => simp
 | false =>
  rw [Bool.eq_iff_iff];simp
def LN (w : World) (r : Int) (wr : World) : Prop :=
  ∃ p : Nat, p ≤ 24 ∧ wr.heap[w.heap.size]? = some (.stringIter E6 p) ∧ (yP.drop p).contains r = yP.contains r ∧ Below w.heap.size w wr
theorem gl (r : Int) (w : World) :
    Calls Tryz.prog 83 #[.int .i32 r] w fun e w' => e = .returned (.bool (yP.contains r)) ∧ Below w.heap.size w w' := by
 go_enter Tryz.func83, Tryz.ntmps83;go_wp2_with fail;go_loopw [2] (fun _ wr => LN w r wr) (fun _ wr => 24 - wr.iterPos w.heap.size);(case atStart => exact ⟨0, Nat.zero_le _, World.iter_heap _ _ _, rfl, (Below.refl _ _).alloc (Nat.le_refl _) _⟩);obtain ⟨p, hp, hit, bz, mw⟩ := hrel;have hz := mw.size;have jl := iterPos_of hit;by_cases hlt : p < 24
 ·have hnext := fun ty => Lib.run_next_any_at (P := Tryz.prog) wr w.heap.size E6 p ty hit hlt;obtain ⟨yS, nF⟩ := Cu p hlt;have nJ := Lib.iterAt_heap wr w.heap.size E6 p (p + (Utf8.decode E6 p).2) hit;have aT := Lib.below_iterAt mw (Nat.le_refl _) E6 (p + (Utf8.decode E6 p).2);rw [nF] at nJ aT hnext;rw [yS] at hnext;generalize wr.iterAt w.heap.size E6 (p + 1) = W1 at *;obtain ⟨x, hx⟩ : ∃ x, yP[p]? = some x := ⟨_, List.getElem?_eq_getElem hlt⟩;have hgd : yP.getD p 0 = x := (by rw [List.getD_eq_getElem?_getD, hx]; rfl);rw [hgd] at hnext;have Rt : yP.drop p = x :: yP.drop (p + 1) := by
   rw [List.drop_eq_getElem_cons (show p < yP.length from hlt)];congr 1;rw [List.getElem?_eq_getElem (show p < yP.length from hlt)] at hx;exact Option.some.inj hx
  rw [Rt, List.contains_cons] at bz;have kV := Lib.hid (iterPos_of nJ);have AE := Lib.hid nJ;have wm := Lib.hid jl;have HG := Lib.hid bz;have HB := Lib.hid aT;clear hit nJ jl yS nF hgd Rt bz aT mw hx;by_cases he : x = r
  ·have HE := Lib.hid (show yP.contains r = true by rw [← HG.out, he]; simp);subst he;go_wp2_with fail;go_ret;rw [HE.out];exact ⟨rfl, HB.out⟩
  have HE := Lib.hid (show (yP.drop (p + 1)).contains r = yP.contains r by rw [← HG.out, beq_eq_false_iff_ne.2 (Ne.symm he)]; simp);have q1 : (x == r) = false := (by rw [beq_eq_false_iff_ne]; exact he);go_wp2_with fail;exact ⟨⟨p + 1, by omega, AE.out, HE.out, HB.out⟩, by rw [kV.out, wm.out]; omega⟩
 have hnext := fun ty => Lib.run_next_end_at (P := Tryz.prog) wr w.heap.size E6 p ty hit hlt;obtain rfl : p = 24 := (by omega);have HE := Lib.hid (show yP.contains r = false from bz.symm);clear hit jl bz;go_wp2_with fail;go_ret;rw [HE.out];exact ⟨rfl, mw⟩
theorem CD (r : Int) (w : World) :
    Calls Tryz.prog 139 #[.int .i32 r] w fun e w' => e = .returned (.bool (rJ r)) ∧ w' = w := by
 go_enter Tryz.func139, Tryz.ntmps139;go_wp2;(all_goals go_ret);(all_goals refine ⟨cw ?_, rfl⟩);(all_goals (rw [Bool.eq_iff_iff]; simp [rJ]; try omega))
def vI (r : Int) : Int := if ct r = true then iE r else -1
theorem oF {r : Int} (h : ct r = true) : vI r = iE r ∧ 0 ≤ iE r ∧ iE r ≤ 15 := by
 refine ⟨by unfold vI; rw [if_pos h], ?_⟩;unfold ct at h;simp at h;unfold iE;split;omega;split <;> omega
theorem Ar {r : Int} (h : ct r = false) : vI r = -1 := by unfold vI; rw [h]; rfl
theorem uB (r : Int) (w : World) (h0 : -1 ≤ r) (h1 : r ≤ 1114111) :
    Calls Tryz.prog 138 #[.int .i32 r] w fun e w' => e = .returned (.int .i64 (vI r)) ∧ w' = w := by
 rcases (show (r < 48 ∨ (57 < r ∧ r < 65) ∨ (70 < r ∧ r < 97) ∨ 102 < r) ∨ (48 ≤ r ∧ r ≤ 57) ∨ (97 ≤ r ∧ r ≤ 102) ∨ (65 ≤ r ∧ r ≤ 70) by omega) with h | h | h | h
 ·have HV := Lib.hid (show vI r = -1 from Ar (by unfold ct; rw [Bool.eq_false_iff]; simp; omega));rcases h with h | h | h | h
  all_goals
    go_enter Tryz.func138, Tryz.ntmps138
    go_wp2_with fail
    go_ret
    rw [HV.out]
    exact ⟨rfl, rfl⟩
 ·have HV := Lib.hid (show vI r = r - 48 by rw [(oF (r := r) (by unfold ct; simp; omega)).1]; unfold iE; rw [if_pos h.2]);go_enter Tryz.func138, Tryz.ntmps138;go_wp2_with fail;go_ret;rw [HV.out];exact ⟨rfl, rfl⟩
 ·have HV := Lib.hid (show vI r = r - 97 + 10 by rw [(oF (r := r) (by unfold ct; simp; omega)).1]; unfold iE; rw [if_neg (by omega), if_pos h.1]; omega);go_enter Tryz.func138, Tryz.ntmps138;go_wp2_with fail;go_ret;rw [HV.out];exact ⟨rfl, rfl⟩
 have HV := Lib.hid (show vI r = r - 65 + 10 by rw [(oF (r := r) (by unfold ct; simp; omega)).1]; unfold iE; rw [if_neg (by omega), if_neg (by omega)]; omega);go_enter Tryz.func138, Tryz.ntmps138;go_wp2_with fail;go_ret;rw [HV.out];exact ⟨rfl, rfl⟩
def lA : Array Value := #[.int .i64 192, .int .i64 224, .int .i64 2, .int .i64 128, .int .i64 224, .int .i64 240, .int .i64 3, .int .i64 2048, .int .i64 240, .int .i64 248, .int .i64 4, .int .i64 65536]
theorem xP (j : Nat) (hj : j < 3) : lA[j * 4]? = some (.int .i64 (dm j)) ∧ lA[j * 4 + 1]? = some (.int .i64 (qM j)) ∧ lA[j * 4 + 2]? = some (.int .i64 (jw j)) ∧ lA[j * 4 + 3]? = some (.int .i64 (sx j)) := by
 match j, hj with
 | 0, _ => exact ⟨rfl, rfl, rfl, rfl⟩
 | 1, _ => exact ⟨rfl, rfl, rfl, rfl⟩
 | 2, _ => exact ⟨rfl, rfl, rfl, rfl⟩
def IT (w : World) (s : ByteArray) (p : Nat) (i : Value) (wr : World) : Prop :=
  ∃ j : Nat, j ≤ 3 ∧ i = .int .i64 j ∧ (∀ q, q < j → ig q (aQ s p) = true → ¬ p + jw q ≤ s.size) ∧ aM wr w.heap.size 169 lA ∧ Below w.heap.size w wr
def Lh (w0 : World) (s : ByteArray) (p : Nat) (x0 : Int) (n : Nat) (x i : Value) (wr : World) : Prop :=
  ∃ k : Nat, 1 ≤ k ∧ k ≤ n ∧ i = .int .i64 k ∧ x = .int .i64 (part s p x0 (k - 1)) ∧ (∀ q : Nat, 1 ≤ q → q < k → aQ s (p + q) / 64 = 2) ∧ wr = w0
def F0 (w : World) (p : Int × Int) (e : Ending) (w' : World) : Prop := e = .returned (.tuple #[.int .i32 p.1, .int .i64 p.2]) ∧ Below w.heap.size w w'
theorem An (s : ByteArray) (p : Nat) (w : World) (hs : s.size ≤ 1099511627776) (hp : p < s.size) :
    Calls Tryz.prog 80 #[.string s, .int .i64 p] w (F0 w (tW s p)) := by
 have UX := iW s p hp;have hb0 := j6 s p;have ha := CQ s p;have hno := Eb s p;have hcut := F4 s p;have Ku := B7 s p;generalize vZ : aQ s p = c at *;have LO := Lib.hid vZ;clear vZ;by_cases hc : c < 128
 ·have HA := Lib.hid (ha hc);clear ha hno hcut Ku;go_enter Tryz.func80, Tryz.ntmps80;go_wp2;go_ret2;rw [HA.out];exact ⟨rfl, Below.refl _ _⟩
 have Rx := Lib.hid (hno (by omega));have MK := Lib.hid hcut;have RH := Lib.hid Ku;clear ha hno hcut Ku;go_enter Tryz.func80, Tryz.ntmps80;go_wp2;go_loopw [25] (IT w s p) (fun i _ => 3 - (intOf i).toNat);(case atStart => exact ⟨0, by omega, rfl, by omega, aM.new _ _ _, (Below.refl _ _).alloc (Nat.le_refl _) _⟩);obtain ⟨j, hj, rfl, Al, ij, hb⟩ := hrel;rw [LO.out] at Al;have hz := ij.lt;by_cases hlt : j < 3
 ·obtain ⟨k0, k1, k2, k3⟩ := xP j hlt;have r0 := (ij.cell (j * 4)).trans k0;have r1 := (ij.cell (j * 4 + 1)).trans k1;have r2 := (ij.cell (j * 4 + 2)).trans k2;have r3 := (ij.cell (j * 4 + 3)).trans k3;have Hq := DP j hlt c hb0.1 hb0.2;have hcut := MK.out j;have Ku := RH.out j hlt;have My : decide ((j : Int) < 3) = true := (by simp; omega);have UW : 2 ≤ jw j ∧ jw j ≤ 4 := by
   unfold jw;split;omega;split <;> omega
  have hx0 : ig j c = true → 0 ≤ c - dm j ∧ c - dm j < 32 := by
   unfold ig;intro h;simp only [Bool.and_eq_true, decide_eq_true_eq] at h;split at h;omega;split at h <;> omega
  have RA : 0 ≤ dm j ∧ dm j ≤ 240 := by
   unfold dm;split;omega;split <;> omega
  have hsj := Al;generalize hN : jw j = n at *;generalize dm j = hd at *;generalize qM j = mk at *;generalize sx j = ls at *;have HN := Lib.hid hN;have O7 := Lib.hid Al;have Hi := Lib.hid hcut;have MG := Lib.hid Ku;have Mt := Lib.hid ij;clear hN Al hsj hcut Ku ij k0 k1 k2 k3;by_cases hm : ig j c = true
  ·obtain ⟨hx1, I4⟩ := hx0 hm;rw [hm] at Hq;by_cases hps : p + n ≤ s.size
   ·have TC := Lib.hid (MG.out hm hps);have eH := Lib.hid (fun i => Hi.out i hlt hm);clear MG Hi O7 HN Rx MK RH;go_wp2_with fail;have AT : Below w.heap.size w (wr.alloc (.cells #[.int .i64 hd, .int .i64 mk, .int .i64 n, .int .i64 ls] 169)) := hb.alloc (by omega) _;obtain ⟨wo, rfl⟩ : ∃ wo : World, wo = wr := ⟨_, rfl⟩;go_loopw [9, 10] (Lh (wo.alloc (.cells #[.int .i64 hd, .int .i64 mk, .int .i64 n, .int .i64 ls] 169)) s p (c - hd) n) (fun _ i _ => n - (intOf i).toNat);(case atStart => exact ⟨1, by omega, by omega, rfl, rfl, fun q h1 h2 => by omega, rfl⟩);obtain ⟨k, mT, hkn, rfl, rfl, hok, rfl⟩ := hrel;have Vk := Fu s p (c - hd) hx1 I4 (k - 1) (by omega);have EF := Lib.hid hok;clear hok;by_cases uZ : k < n
    ·have hbk := iW s (p + k) (by omega);have hdb := j6 s (p + k);have hstep : part s p (c - hd) (k + 1 - 1) = part s p (c - hd) (k - 1) * 64 + aQ s (p + k) % 64 := by
      obtain ⟨k', rfl⟩ : ∃ k', k = k' + 1 := ⟨k - 1, by omega⟩;rfl
     have gN : aQ s (p + k) / 64 ≠ 2 → tW s p = (0, 0) := fun h => eH.out k mT uZ h;have Ng : aQ s (p + k) / 64 = 2 → ∀ q, 1 ≤ q → q < k + 1 → aQ s (p + q) / 64 = 2 := fun h q h1 h2 => by
      by_cases hq : q = k
      ·rw [hq]; exact h
      exact EF.out q h1 (by omega)
     have HS := Lib.hid hstep;have HB := Lib.hid gN;have NX := Lib.hid Ng;clear hstep gN Ng;generalize aQ s (p + k) = d at *;generalize part s p (c - hd) (k - 1) = X at *;have hpk : p + k < s.size := (by omega);by_cases nF : d / 64 = 2
     ·have hdt : (d / 64 != 2) = false := (by rw [bne_eq_false_iff_eq]; exact nF);have HD := Lib.hid nF;clear nF;go_wp2_with fail;exact ⟨⟨k + 1, by omega, by omega, by go_num, by rw [HS.out], NX.out HD.out, rfl⟩, by simp [intOf]; omega⟩
     have hdt : (d / 64 != 2) = true := (by rw [bne_iff_ne]; exact nF);have HD := Lib.hid (HB.out nF);clear nF;go_wp2_with fail;go_ret2;rw [HD.out];exact ⟨rfl, AT⟩
    obtain rfl : k = n := (by omega);have wK := TC.out EF.out;generalize part s p (c - hd) (k - 1) = X at *;have Uw : X ≤ 2147483647 := (by omega);cases hls : decide (ls ≤ X)
    ·rw [hls, if_neg (by simp)] at wK;have HF := Lib.hid wK;clear wK;go_wp2_with fail;go_ret2;rw [HF.out];exact ⟨rfl, AT⟩
    cases hrt : bT X
    ·rw [hls, hrt, if_neg (by simp)] at wK;have HF := Lib.hid wK;clear wK;go_wp2_with (go_at_call 131; refine (gX _ _).mono ?_; rintro e w' ⟨rfl, rfl⟩);go_ret2;rw [HF.out];exact ⟨rfl, AT⟩
    rw [hls, hrt, if_pos (by simp)] at wK;have HF := Lib.hid wK;clear wK;go_wp2_with (go_at_call 131; refine (gX _ _).mono ?_; rintro e w' ⟨rfl, rfl⟩);go_quiet (fail);go_wp2;go_ret2;rw [HF.out];exact ⟨rfl, below_drewN AT _⟩
   have Uz : s.size < p + n := (by omega);have Ee : ∀ q, q < j + 1 → ig q c = true → ¬ p + jw q ≤ s.size := fun q hq h => by
    by_cases Q2 : q = j
    ·subst Q2; rw [HN.out]; omega
    exact O7.out q (by omega) h
   have JS := Lib.hid Ee;clear Ee;go_wp2_with fail;exact ⟨⟨j + 1, by omega, by go_num, by rw [LO.out]; exact JS.out, Mt.out.alloc _, hb.alloc (by omega) _⟩, by simp [intOf]; omega⟩
  have Fa : ig j c = false := (by simpa using hm);rw [Fa] at Hq;have Ee : ∀ q, q < j + 1 → ig q c = true → ¬ p + jw q ≤ s.size := fun q hq h => by
   by_cases Q2 : q = j
   ·subst Q2; rw [h] at Fa; cases Fa
   exact O7.out q (by omega) h
  have JS := Lib.hid Ee;clear Ee;go_wp2_with fail;exact ⟨⟨j + 1, by omega, by go_num, by rw [LO.out]; exact JS.out, Mt.out.alloc _, hb.alloc (by omega) _⟩, by simp [intOf]; omega⟩
 obtain rfl : j = 3 := (by omega);have HF := Lib.hid (Rx.out Al);clear Al;go_wp2_with fail;go_ret2;rw [HF.out];exact ⟨rfl, hb⟩
end Go.Proofs.YthnhbcohfoodlaaGreatDoor
