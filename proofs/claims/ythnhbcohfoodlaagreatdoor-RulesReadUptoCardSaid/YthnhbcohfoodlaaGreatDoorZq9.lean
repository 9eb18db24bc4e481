/- ParseHex + SetWork + SpanInfo + RefHas + Walk + SetSame -/
import Derived.Test.YthnhbcohfoodlaaGreatDoorZq8
import Derived.Test.YthnhbcohfoodlaaGreatDoorZq3
import Derived.Lib.ConvBytes
import Derived.Lib.Strings
import Derived.Test.YthnhbcohfoodlaaGreatDoorZq7
import Derived.Test.YthnhbcohfoodlaaGreatDoorZq6
set_option maxHeartbeats 3200000
set_option maxRecDepth 100000
namespace Go.Proofs.YthnhbcohfoodlaaGreatDoor
open Go.RowKit
theorem Bo (c : Int) (w : World) (h : (65 ≤ c ∧ c ≤ 70) ∨ (97 ≤ c ∧ c ≤ 102)) :
    Calls Tryz.prog 212 #[.int .u8 c] w fun e w' => e = .returned (.int .u8 (iE c + 87)) ∧ w' = w := by
 have hc : c = 65 ∨ c = 66 ∨ c = 67 ∨ c = 68 ∨ c = 69 ∨ c = 70 ∨ c = 97 ∨ c = 98 ∨ c = 99 ∨ c = 100 ∨ c = 101 ∨ c = 102 := (by omega);clear h;rcases hc with rfl | rfl | rfl | rfl | rfl | rfl | rfl | rfl | rfl | rfl | rfl | rfl
 all_goals
   go_enter Tryz.func212, Tryz.ntmps212
   go_wp2_with fail
   go_ret
   exact ⟨rfl, rfl⟩
def Md (W : World) (ds : List Int) (u n i : Value) (wr : World) : Prop := u = .bool false ∧ ∃ j : Nat, j ≤ ds.length ∧ i = .int .i64 j ∧ n = .int .u64 (dg (ds.take j)) ∧ wr = W
theorem zJ (s : ByteArray) (ds : List Int) (w : World) (hs : s.data.toList = lK ds) (hd : ∀ d ∈ ds, ct d = true) (h1 : 1 ≤ ds.length) (h6 : ds.length ≤ 6) :
    Calls Tryz.prog 206 #[.string s, .int .i64 16, .int .i64 64] w fun e w' => e = .returned (.tuple #[.int .u64 (dg ds), .nilIface]) ∧ Below w.heap.size w w' := by
 have hsz : s.size = ds.length := (by have h2 := congrArg List.length hs; rw [lK, List.length_map, Array.length_toList] at h2; exact h2);have kr := Lib.run_convert_string_bytes (P := Tryz.prog) w 9 76 5 s Tryz.underlying9 Tryz.underlying76 Tryz.underlying5;have hcell : ∀ j d, ds[j]? = some d → (Lib.bytesWorld w 5 s).cell? ⟨w.heap.size, j, none⟩ = some (.int .u8 d) := fun j d h => by
  have hj : j < s.size := (by rw [hsz]; exact (List.getElem?_eq_some_iff.1 h).1);have := Lib.bytesWorld_cell w 5 s j hj;rw [this, hs];have hb := l8 hd d (List.mem_of_getElem? h);have : (lK ds).getD j 0 = UInt8.ofNat d.toNat := (by simp [lK, List.getD_eq_getElem?_getD, h]);rw [this];congr 2;simp;omega
 have hB : Below w.heap.size w (Lib.bytesWorld w 5 s) := Lib.below_freeze (((Below.refl _ _).drew).alloc (Nat.le_refl _) _) (p := ⟨w.heap.size, _, none⟩) (Nat.le_refl _) _;have hne : (s.toList == []) = false := by
  rw [beq_eq_false_iff_ne, Lib.toList_data];intro e;have := congrArg List.length e;rw [Array.length_toList] at this;have h2 : s.size = 0 := this;omega
 rw [hsz] at kr;generalize Lib.bytesWorld w 5 s = W at *;generalize hk : ds.length = k at *;generalize Go.grownCap w k 0 5 = C at *;have HC := Lib.hid hcell;have HD := Lib.hid hd;clear hcell hd hs;go_enter Tryz.func206, Tryz.ntmps206;have Ur : IntKind.u64.wrap (IntKind.u64.wrap 18446744073709551616 - 1) = 18446744073709551615 := (by decide);go_wp2_with fail;go_loopw [12, 13, 101] (Md W ds) (fun _ _ i _ => k - (intOf i).toNat);(case atStart => exact ⟨rfl, 0, Nat.zero_le _, rfl, rfl, rfl⟩);obtain ⟨rfl, j, hj, rfl, rfl, rfl⟩ := hrel;rw [hk] at hj;by_cases hlt : j < k
 ·obtain ⟨d, NL⟩ : ∃ z, ds[j]? = some z := ⟨_, List.getElem?_eq_getElem (by omega)⟩;have hh := HD.out d (List.mem_of_getElem? NL);have d0 := HC.out j d NL;obtain ⟨x0, x1⟩ := iS (l := ds.take j) (fun y hy => HD.out y (List.mem_of_mem_take hy)) (by rw [List.length_take]; omega);have HS := Lib.hid (show dg (ds.take (j + 1)) = 16 * dg (ds.take j) + iE d by rw [List.take_add_one, NL]; exact qf _ _);have hv := sq hh;have hr : (48 ≤ d ∧ d ≤ 57) ∨ (97 ≤ d ∧ d ≤ 102) ∨ (65 ≤ d ∧ d ≤ 70) := by
   unfold ct at hh;simpa only [Bool.or_eq_true, Bool.and_eq_true, decide_eq_true_eq] using hh
  generalize dg (ds.take j) = X at *;clear NL hh;have Pf : (48 ≤ d ∧ d ≤ 57 ∧ iE d = d - 48) ∨ (¬ d ≤ 57 ∧ 65 ≤ d ∧ d ≤ 102 ∧ ((65 ≤ d ∧ d ≤ 70) ∨ (97 ≤ d ∧ d ≤ 102))) := by
   unfold iE;rcases hr with h | h | h
   ·left; rw [if_pos h.2]; omega
   ·right; omega
   right; omega
  rcases Pf with ⟨q1, q2, q3⟩ | ⟨q1, q2, q3, q4⟩
  ·have HV := Lib.hid q3;clear hr q3;have yS : decide (48 ≤ d) = true := decide_eq_true q1;have nF : decide (d ≤ 57) = true := decide_eq_true q2;go_wp2_with fail;exact ⟨⟨rfl, j + 1, by omega, by go_num, by rw [HS.out, HV.out]; congr 1; omega, rfl⟩, by simp [intOf]; omega⟩
  have HL := Lib.hid (fun (W : World) => Bo d W (by omega));have nF : decide (d ≤ 57) = false := decide_eq_false q1;have yS : decide (48 ≤ d) = true := decide_eq_true (by omega);have S9 : 10 ≤ iE d := (by unfold iE; rw [if_neg q1]; split <;> omega);have Pc : (d == 95) = false := (by simp; omega);generalize iE d = v at *;clear hr q4;go_wp2_with (go_at_call 212; refine (HL.out _).mono ?_; rintro e w1 ⟨rfl, rfl⟩);exact ⟨⟨rfl, j + 1, by omega, by go_num, by rw [HS.out]; congr 1; omega, rfl⟩, by simp [intOf]; omega⟩
 obtain rfl : j = k := (by omega);rw [List.take_of_length_le (by omega)];go_wp2_with fail;go_ret2;exact ⟨rfl, hB⟩
theorem vC (s : ByteArray) (ds : List Int) (w : World) (hs : s.data.toList = lK ds) (hd : ∀ d ∈ ds, ct d = true) (h1 : 1 ≤ ds.length) (h6 : ds.length ≤ 6) :
    Calls Tryz.prog 200 #[.string s, .int .i64 16, .int .i64 64] w fun e w' => e = .returned (.tuple #[.int .i64 (dg ds), .nilIface]) ∧ Below w.heap.size w w' := by
 have HU := Lib.hid (zJ s ds w hs hd h1 h6);have hsz : s.size = ds.length := (by have h2 := congrArg List.length hs; rw [lK, List.length_map, Array.length_toList] at h2; exact h2);have hne : (s.toList == []) = false := by
  rw [beq_eq_false_iff_ne, Lib.toList_data];intro e;have := congrArg List.length e;rw [Array.length_toList] at this;have h2 : s.size = 0 := this;omega
 obtain ⟨d, NY⟩ : ∃ z, ds[0]? = some z := ⟨_, List.getElem?_eq_getElem (by omega)⟩;have hh := hd d (List.mem_of_getElem? NY);have hr : (48 ≤ d ∧ d ≤ 57) ∨ (97 ≤ d ∧ d ≤ 102) ∨ (65 ≤ d ∧ d ≤ 70) := by
  unfold ct at hh;simpa only [Bool.or_eq_true, Bool.and_eq_true, decide_eq_true_eq] using hh
 have Od : ∀ W : World, (Instr.index 9 (.string s) (.int .i64 0)).run Tryz.prog W = .ok (.int .u8 d) W := fun W => by
  rw [run_index_string W _ s _ _ Tryz.underlying9, dif_pos ⟨by omega, by omega⟩];have e : s.data.toList[0]? = some (UInt8.ofNat d.toNat) := (by rw [hs]; simp [lK, NY]);have h3 : s.data.toList[0]? = some (s[(0 : Nat)]'(by omega)) := by
   rw [List.getElem?_eq_getElem (by rw [Array.length_toList]; show 0 < s.size; omega)];rfl
  rw [h3] at e;injection e with e;simp only [Int.toNat_zero];rw [e];congr 2;simp;omega
 have Kn : (d == 43) = false := (by simp; omega);have IA : (d == 45) = false := (by simp; omega);obtain ⟨x0, x1⟩ := iS hd h6;have Ur : IntKind.u64.wrap 9223372036854775808 = 9223372036854775808 := (by decide);generalize dg ds = X at *;clear hs hd NY hh hr;go_enter Tryz.func200, Tryz.ntmps200;go_wp2_with fail;refine HU.out.mono ?_;rintro e w1 ⟨rfl, hb⟩;have HB := Lib.hid hb;clear hb;go_wp2_with fail;go_ret2;exact ⟨rfl, HB.out⟩
theorem Be (s : ByteArray) (ds : List Int) (w : World) (hs : s.data.toList = lK ds) (hd : ∀ d ∈ ds, ct d = true) (h1 : 1 ≤ ds.length) (h6 : ds.length ≤ 6) :
    Calls Tryz.prog 186 #[.string s, .int .i64 16, .int .i64 64] w fun e w' => e = .returned (.tuple #[.int .i64 (dg ds), .nilIface]) ∧ Below w.heap.size w w' := by
 have HI := Lib.hid (vC s ds w hs hd h1 h6);generalize dg ds = X at *;clear hs hd;go_enter Tryz.func186, Tryz.ntmps186;go_wp2_with fail;refine HI.out.mono ?_;rintro e w1 ⟨rfl, hb⟩;have HB := Lib.hid hb;clear hb;go_wp2_with fail;go_ret2;exact ⟨rfl, HB.out⟩
def j9 (a : Int) : ag → ag
  | [] => if a ≤ 1114111 then [(a, 1114111)] else []
  | x :: s => (if a < x.1 then [(a, x.1 - 1)] else []) ++ j9 (x.2 + 1) s
theorem DV (s : ag) : ∀ a, 0 ≤ a → Canon s → (∀ x ∈ s, a ≤ x.1) → Canon (j9 a s) ∧ (∀ y ∈ j9 a s, a ≤ y.1) ∧ ∀ r, a ≤ r → r ≤ 1114111 → bn (j9 a s) r = !bn s r := by
 induction s with
 | nil =>
  intro a h0 _ _;unfold j9;split
  ·rename_i h;refine ⟨⟨by simp; omega, List.pairwise_singleton _ _⟩, by simp, fun r h1 h2 => ?_⟩;simp [bn];omega
  exact ⟨Canon.nil, by simp, fun r h1 h2 => by omega⟩
 | cons x s ih =>
  intro a h0 hc hl;have hx := hc.each x List.mem_cons_self;have UQ := hl x List.mem_cons_self;have vu := hc.low;obtain ⟨i1, i2, i3⟩ := ih (x.2 + 1) (by omega) hc.tail (fun y hy => by have := vu y hy; omega);have key : ∀ r, x.1 ≤ r → r ≤ 1114111 → bn (j9 (x.2 + 1) s) r = !bn (x :: s) r := by
   intro r h1 h2;rw [b6];by_cases hr : r ≤ x.2
   ·rw [dB (s := j9 (x.2 + 1) s) (m := x.2) (fun y hy => by have := i2 y hy; omega) hr];simp [h1, hr]
   rw [i3 r (by omega) h2];simp [hr]
  unfold j9;split
  ·rename_i h;refine ⟨⟨fun y hy => ?_, ?_⟩, fun y hy => ?_, fun r h1 h2 => ?_⟩
   ·rcases List.mem_append.1 hy with hy | hy
    ·rw [List.mem_singleton.1 hy]; simp only; omega
    exact i1.each y hy
   ·rw [List.pairwise_append];refine ⟨List.pairwise_singleton _ _, i1.rise, fun p hp q hq => ?_⟩;rw [List.mem_singleton.1 hp];have := i2 q hq;simp only;omega
   ·rcases List.mem_append.1 hy with hy | hy
    ·rw [List.mem_singleton.1 hy]; exact Int.le_refl _
    have := i2 y hy; omega
   rw [dw];by_cases hr : x.1 ≤ r
   ·rw [key r hr h2];simp [bn];omega
   rw [dB (s := j9 (x.2 + 1) s) (m := x.2) (fun y hy => by have := i2 y hy; omega) (by omega), b6 x s, dB (s := s) (m := x.2 + 1) vu (by omega)];rw [decide_eq_false hr];simp [bn];omega
  refine ⟨i1, fun y hy => by have := i2 y hy; omega, fun r h1 h2 => ?_⟩;rw [List.nil_append];exact key r (by omega) h2
def qV (s : ag) : ag := j9 0 s
theorem vX {s : ag} (h : Canon s) : Canon (qV s) ∧ ∀ r, 0 ≤ r → r ≤ 1114111 → bn (qV s) r = !bn s r :=
  let ⟨h1, _, h3⟩ := DV s 0 (Int.le_refl _) h (fun x hx => (h.each x hx).1)
  ⟨h1, h3⟩
def cP : ag → ag → ag
  | [], _ => []
  | _ :: _, [] => []
  | x :: a, y :: b => (if max x.1 y.1 ≤ min x.2 y.2 then [(max x.1 y.1, min x.2 y.2)] else []) ++ (if x.2 < y.2 then cP a (y :: b) else cP (x :: a) b)
termination_by a b => a.length + b.length
theorem oQ (b : ag) : cP [] b = [] := by unfold cP; rfl
theorem sr (a : ag) : cP a [] = [] := by cases a <;> unfold cP <;> rfl
theorem rz (x y : Int × Int) (a b : ag) : cP (x :: a) (y :: b) = (if max x.1 y.1 ≤ min x.2 y.2 then [(max x.1 y.1, min x.2 y.2)] else []) ++ (if x.2 < y.2 then cP a (y :: b) else cP (x :: a) b) := by
 rw [cP]
theorem EW (n : Nat) : ∀ a b : ag, a.length + b.length ≤ n → Canon a → Canon b →
    (cP a b).length ≤ a.length + b.length ∧ Canon (cP a b) ∧ (∀ z ∈ cP a b, (∃ x ∈ a, x.1 ≤ z.1) ∧ ∃ y ∈ b, y.1 ≤ z.1) ∧ ∀ r, bn (cP a b) r = (bn a r && bn b r) := by
 induction n with
 | zero =>
  intro a b hn _ _;obtain rfl : a = [] := List.eq_nil_of_length_eq_zero (by omega);rw [oQ];exact ⟨Nat.zero_le _, Canon.nil, by simp, fun r => by simp [bn]⟩
 | succ n ih =>
  intro a b hn ha hb;cases a with
  | nil => rw [oQ]; exact ⟨Nat.zero_le _, Canon.nil, by simp, fun r => by simp [bn]⟩
  | cons x a =>
   cases b with
   | nil => rw [sr]; exact ⟨Nat.zero_le _, Canon.nil, by simp, fun r => by simp [bn]⟩
   | cons y b =>
    have hx := ha.each x List.mem_cons_self;have hy := hb.each y List.mem_cons_self;have la := ha.low;have lb := hb.low;rw [List.length_cons, List.length_cons] at hn;rw [rz];by_cases h : x.2 < y.2
    ·rw [if_pos h];obtain ⟨i0, i1, i2, i3⟩ := ih a (y :: b) (by rw [List.length_cons]; omega) ha.tail hb;rw [List.length_cons] at i0;have vu : ∀ z ∈ cP a (y :: b), x.2 + 1 < z.1 := fun z hz => by
      obtain ⟨⟨p, hp, h1⟩, _⟩ := i2 z hz;have := la p hp;omega
     have hmin : min x.2 y.2 = x.2 := (by omega);rw [hmin];refine ⟨?_, ?_, fun z hz => ?_, fun r => ?_⟩
     ·rw [List.length_append, List.length_cons, List.length_cons]; split <;> simp <;> omega
     ·split
      ·rename_i hm;refine ⟨fun z hz => ?_, ?_⟩
       ·rcases List.mem_append.1 hz with hz | hz
        ·rw [List.mem_singleton.1 hz]; simp only; omega
        exact i1.each z hz
       rw [List.pairwise_append];refine ⟨List.pairwise_singleton _ _, i1.rise, fun p hp q hq => ?_⟩;rw [List.mem_singleton.1 hp];exact vu q hq
      exact i1
     ·rcases List.mem_append.1 hz with hz | hz
      ·split at hz
       ·rw [List.mem_singleton.1 hz];exact ⟨⟨x, List.mem_cons_self, by simp only; omega⟩, y, List.mem_cons_self, by simp only; omega⟩
       simp at hz
      obtain ⟨⟨p, hp, h1⟩, h2⟩ := i2 z hz;exact ⟨⟨p, List.mem_cons_of_mem _ hp, h1⟩, h2⟩
     rw [dw, i3, b6 x a];have e1 : bn (if max x.1 y.1 ≤ x.2 then [(max x.1 y.1, x.2)] else []) r = ((decide (x.1 ≤ r) && decide (r ≤ x.2)) && decide (y.1 ≤ r)) := by
      split
      ·rw [Bool.eq_iff_iff]; simp [bn]; omega
      rw [Bool.eq_iff_iff]; simp [bn]; omega
     rw [e1];by_cases hr : r ≤ x.2
     ·rw [dB (s := a) (m := x.2 + 1) la (by omega), b6 y b, dB (s := b) (m := y.2 + 1) lb (by omega)];rw [Bool.eq_iff_iff]; simp; omega
     simp [hr]
    rw [if_neg h];obtain ⟨i0, i1, i2, i3⟩ := ih (x :: a) b (by rw [List.length_cons]; omega) ha hb.tail;rw [List.length_cons] at i0;have vu : ∀ z ∈ cP (x :: a) b, y.2 + 1 < z.1 := fun z hz => by
     obtain ⟨_, ⟨p, hp, h1⟩⟩ := i2 z hz;have := lb p hp;omega
    have hmin : min x.2 y.2 = y.2 := (by omega);rw [hmin];refine ⟨?_, ?_, fun z hz => ?_, fun r => ?_⟩
    ·rw [List.length_append, List.length_cons, List.length_cons]; split <;> simp <;> omega
    ·split
     ·rename_i hm;refine ⟨fun z hz => ?_, ?_⟩
      ·rcases List.mem_append.1 hz with hz | hz
       ·rw [List.mem_singleton.1 hz]; simp only; omega
       exact i1.each z hz
      rw [List.pairwise_append];refine ⟨List.pairwise_singleton _ _, i1.rise, fun p hp q hq => ?_⟩;rw [List.mem_singleton.1 hp];exact vu q hq
     exact i1
    ·rcases List.mem_append.1 hz with hz | hz
     ·split at hz
      ·rw [List.mem_singleton.1 hz];exact ⟨⟨x, List.mem_cons_self, by simp only; omega⟩, y, List.mem_cons_self, by simp only; omega⟩
      simp at hz
     obtain ⟨h1, ⟨p, hp, h2⟩⟩ := i2 z hz;exact ⟨h1, p, List.mem_cons_of_mem _ hp, h2⟩
    rw [dw, i3, b6 y b];have e1 : bn (if max x.1 y.1 ≤ y.2 then [(max x.1 y.1, y.2)] else []) r = ((decide (y.1 ≤ r) && decide (r ≤ y.2)) && decide (x.1 ≤ r)) := by
     split
     ·rw [Bool.eq_iff_iff]; simp [bn]; omega
     rw [Bool.eq_iff_iff]; simp [bn]; omega
    rw [e1];by_cases hr : r ≤ y.2
    ·rw [dB (s := b) (m := y.2 + 1) lb (by omega), b6 x a, dB (s := a) (m := x.2 + 1) la (by omega)];rw [Bool.eq_iff_iff]; simp; omega
    simp [hr]
theorem yN {a b : ag} (ha : Canon a) (hb : Canon b) : (cP a b).length ≤ a.length + b.length ∧ Canon (cP a b) ∧ ∀ r, bn (cP a b) r = (bn a r && bn b r) :=
  let ⟨h0, h1, _, h3⟩ := EW _ a b (Nat.le_refl _) ha hb
  ⟨h0, h1, h3⟩
def cY (out : ag) (x : Int × Int) : ag :=
  match out.getLast? with
  | some k => if x.1 ≤ k.2 + 1 then out.dropLast ++ [(k.1, max k.2 x.2)] else out ++ [x]
  | none => out ++ [x]
theorem mP (x : Int × Int) : cY [] x = [x] := rfl
theorem js (i : ag) (k x : Int × Int) : cY (i ++ [k]) x = if x.1 ≤ k.2 + 1 then i ++ [(k.1, max k.2 x.2)] else i ++ [k] ++ [x] := by
 unfold cY;simp
def gD (l : ag) : ag := l.foldl cY []
theorem wJ {out : ag} {x : Int × Int} (h : Canon out) (hx : 0 ≤ x.1 ∧ x.1 ≤ x.2 ∧ x.2 ≤ 1114111) (hl : ∀ y ∈ out, y.1 ≤ x.1) :
    Canon (cY out x) ∧ (∀ y ∈ cY out x, y.1 ≤ x.1) ∧ (cY out x).length ≤ out.length + 1 ∧ ∀ r, bn (cY out x) r = (bn out r || (decide (x.1 ≤ r) && decide (r ≤ x.2))) := by
 rcases List.eq_nil_or_concat out with rfl | ⟨i, k, rfl⟩
 ·rw [mP];exact ⟨⟨by simpa using hx, List.pairwise_singleton _ _⟩, by simp, by simp, fun r => by simp [bn]⟩
 rw [List.concat_eq_append] at h hl ⊢;obtain ⟨hi, hk, hik⟩ := qU h;have T5 := hl k (by simp);rw [js];by_cases he : x.1 ≤ k.2 + 1
 ·rw [if_pos he];refine ⟨kB hi ⟨hk.1, by simp only; omega, by simp only; omega⟩ hik, fun y hy => ?_, by simp, fun r => ?_⟩
  ·rcases List.mem_append.1 hy with hy | hy;exact hl y (by simp [hy]);rw [List.mem_singleton.1 hy]; exact T5
  rw [dw, dw, Bool.or_assoc];congr 1;simp only [bn, List.any_cons, List.any_nil, Bool.or_false];rw [Bool.eq_iff_iff];simp;omega
 rw [if_neg he];refine ⟨kB h hx (fun y hy => ?_), fun y hy => ?_, by simp, fun r => ?_⟩
 ·rcases List.mem_append.1 hy with hy | hy
  ·have := hik y hy; omega
  rw [List.mem_singleton.1 hy]; omega
 ·rcases List.mem_append.1 hy with hy | hy;exact hl y hy;rw [List.mem_singleton.1 hy]; exact Int.le_refl _
 rw [dw];congr 1;simp [bn]
theorem Dx (l : ag) : ∀ out : ag, Canon out → (∀ x ∈ l, 0 ≤ x.1 ∧ x.1 ≤ x.2 ∧ x.2 ≤ 1114111) → l.Pairwise (fun a b => a.1 ≤ b.1) → (∀ y ∈ out, ∀ x ∈ l, y.1 ≤ x.1) →
    Canon (l.foldl cY out) ∧ (l.foldl cY out).length ≤ out.length + l.length ∧ ∀ r, bn (l.foldl cY out) r = (bn out r || bn l r) := by
 induction l with
 | nil => intro out h _ _ _; exact ⟨h, Nat.le_refl _, fun r => by simp [bn]⟩
 | cons x l ih =>
  intro out h hv hs hl;rw [List.pairwise_cons] at hs;obtain ⟨m1, m2, m3, m4⟩ := wJ h (hv x List.mem_cons_self) (fun y hy => hl y hy x List.mem_cons_self);obtain ⟨i1, i2, i3⟩ := ih (cY out x) m1 (fun y hy => hv y (List.mem_cons_of_mem _ hy)) hs.2 (fun y hy z hz => by have := m2 y hy; have := hs.1 z hz; omega);rw [List.foldl_cons, List.length_cons];refine ⟨i1, by omega, fun r => ?_⟩;rw [i3, m4, b6, Bool.or_assoc]
theorem zi {l : ag} (hv : ∀ x ∈ l, 0 ≤ x.1 ∧ x.1 ≤ x.2 ∧ x.2 ≤ 1114111) (hs : l.Pairwise (fun a b => a.1 ≤ b.1)) : Canon (gD l) ∧ (gD l).length ≤ l.length ∧ ∀ r, bn (gD l) r = bn l r := by
 obtain ⟨h1, h2, h3⟩ := Dx l [] Canon.nil hv hs (by simp);exact ⟨h1, by rw [gD]; simpa using h2, fun r => by rw [gD, h3]; simp [bn]⟩
theorem Bc {a b : ag} (h : a.Perm b) (r : Int) : bn a r = bn b r := by
 rw [Bool.eq_iff_iff, ot, ot];exact ⟨fun ⟨x, hx, h1⟩ => ⟨x, h.mem_iff.1 hx, h1⟩, fun ⟨x, hx, h1⟩ => ⟨x, h.mem_iff.2 hx, h1⟩⟩
def qy (s : ag) : ag × Int := if 200 < s.length then ([], 5) else (s, 0)
theorem Ev {a b l : ag} (ha : aK a) (hb : aK b) (hp : (a ++ b).Perm l) (hs : l.Pairwise (fun a b => a.1 ≤ b.1)) : gS 124 a b = qy (gD l) := by
 obtain ⟨h1, _, h3⟩ := zi (l := l) (fun x hx => by
  rcases List.mem_append.1 (hp.mem_iff.2 hx) with h | h;exact ha.each x h;exact hb.each x h) hs
 refine C6 (by decide) ha hb h1 fun r _ _ => ?_;rw [h3, ← Bc hp, dw];simp [eu]
theorem Gf {a b : ag} (ha : aK a) (hb : aK b) : gS 38 a b = qy (cP a b) := by
 obtain ⟨_, h1, h3⟩ := yN ha.canon hb.canon;refine C6 (by decide) ha hb h1 fun r _ _ => ?_;rw [h3];simp [eu]
theorem Dh {a b : ag} (ha : aK a) (hb : aK b) : gS 45 a b = qy (cP a (qV b)) := by
 obtain ⟨n1, n2⟩ := vX hb.canon;obtain ⟨_, h1, h3⟩ := yN ha.canon n1;refine C6 (by decide) ha hb h1 fun r h0 h2 => ?_;rw [h3, n2 r h0 h2];simp [eu]
theorem EN {a : ag} (ha : aK a) (b : ag) : gS 94 a b = qy (qV a) := by
 obtain ⟨n1, n2⟩ := vX ha.canon;exact IQ ha n1 n2 b
theorem gC : (Tryz.prog.info? 74).map (fun i => (i.zero, i.size, i.bytes)) = some (some (.agg #[.int .i32 0, .int .i32 0]), 2, 8) := by kernel_rfl
theorem gv (x y : Int) : ∀ u ∈ [Value.int .i32 x, .int .i32 y], u.oneCell' = true := by
 intro u hu; simp at hu; rcases hu with rfl | rfl <;> rfl
theorem dH (l : ag) (x y : Int) : ak (l ++ [(x, y)]) = ak l ++ [.int .i32 x, .int .i32 y] := by simp [ak]
theorem mZ (l : ag) : ∀ u ∈ ak l, u.oneCell' = true := by
 intro u hu;simp only [ak, List.mem_flatMap] at hu;obtain ⟨x, _, hu⟩ := hu;simp at hu;rcases hu with rfl | rfl <;> rfl
theorem qZ (a b : ag) : ak (a ++ b) = ak a ++ ak b := by simp [ak]
theorem kf (a b : ag) : ak (a ++ b) = ak a ++ ak b := by simp [ak]
def KT (w : World) (s : ag) (r : Int) (n : Nat) (i : Value) (wr : World) : Prop :=
  ∃ j : Nat, j ≤ n ∧ i = .int .i64 j ∧ bn s r = bn (s.drop j) r ∧ Below w.heap.size w wr
theorem rH (A : Option Addr) (n c : Nat) (s : ag) (r : Int) (w : World) (hn : n ≤ 9223372036854775807) (hl : kH w w.heap.size A n s) :
    Calls Tryz.prog 136 #[.slice A n c, .int .i32 r] w fun e w' => e = .returned (.bool (bn s r)) ∧ Below w.heap.size w w' := by
 have cn := Lib.hid hl.len;have HL := Lib.hid hl;clear hl;go_enter Tryz.func136, Tryz.ntmps136;go_wp2_with fail;go_loopw [9] (KT w s r n) (fun i _ => n - (intOf i).toNat);(case atStart => exact ⟨0, Nat.zero_le _, rfl, rfl, Below.refl _ _⟩);obtain ⟨j, hj, rfl, bz, hb⟩ := hrel;have hz := hb.size;by_cases hlt : j < n
 ·obtain ⟨⟨x, y⟩, hx⟩ : ∃ z, s[j]? = some z := ⟨_, List.getElem?_eq_getElem (by rw [cn.out]; exact hlt)⟩;obtain ⟨b, off, rfl, eG, c0, c1⟩ := HL.out.at hx;have d0 := (hb.cell (p := ⟨b, off + j * 2, none⟩) eG).trans c0;have d1 := (hb.cell (p := ⟨b, off + j * 2 + 1, none⟩) eG).trans c1;rw [gE hx, show bn ((x, y) :: s.drop (j + 1)) r = ((decide (x ≤ r) && decide (r ≤ y)) || bn (s.drop (j + 1)) r) from rfl] at bz;have HG := Lib.hid bz;have HX := Lib.hid hx;have HB := Lib.hid (hb.alloc hz (.cells #[.int .i32 x, .int .i32 y] 74));clear bz hx c0 c1;by_cases h1 : x ≤ r
  ·by_cases h2 : r ≤ y
   ·have HE := Lib.hid (show bn s r = true by rw [HG.out, decide_eq_true h1, decide_eq_true h2]; rfl);go_wp2_with fail;go_ret;rw [HE.out];exact ⟨rfl, HB.out⟩
   have HE := Lib.hid (show bn s r = bn (s.drop (j + 1)) r by rw [HG.out, decide_eq_false h2, Bool.and_false, Bool.false_or]);go_wp2_with fail;exact ⟨⟨j + 1, by omega, by go_num, HE.out, HB.out⟩, by simp [intOf]; omega⟩
  have HE := Lib.hid (show bn s r = bn (s.drop (j + 1)) r by rw [HG.out, decide_eq_false h1, Bool.false_and, Bool.false_or]);have hd : decide (x ≤ r) = false := decide_eq_false h1;go_wp2_with fail;exact ⟨⟨j + 1, by omega, by go_num, HE.out, HB.out⟩, by simp [intOf]; omega⟩
 obtain rfl : j = n := (by omega);rw [List.drop_of_length_le (by rw [cn.out]; omega)] at bz;have HG := Lib.hid (bz.trans (show bn [] r = false from rfl));clear bz;go_wp2_with fail;go_ret;rw [HG.out];exact ⟨rfl, hb⟩
def rQ (w : World) (s : ByteArray) (e : Ending) (w' : World) : Prop :=
  ∃ v1 v2, e = .returned (.tuple #[v1, v2, .int .i64 (spoilt s 0)]) ∧ gZ w' w.heap.size v1 (cq s 0) ∧ kJ w' w.heap.size v2 (placesOf s 0 ++ [(s.size : Int)]) ∧ Below w.heap.size w w'
def Gb (w : World) (s : ByteArray) (v5 v6 v7 v8 : Value) (wr : World) : Prop :=
  ∃ (p n : Nat) (l q : List Int), p ≤ s.size ∧ v8 = .int .i64 p ∧ v7 = .int .i64 n ∧ gZ wr w.heap.size v5 l ∧ kJ wr w.heap.size v6 q ∧ l ++ cq s p = cq s 0 ∧ q ++ placesOf s p = placesOf s 0 ∧
    n + spoilt s p = spoilt s 0 ∧ l.length ≤ p ∧ q.length ≤ p ∧ Below w.heap.size w wr
theorem EI (s : ByteArray) (w : World) (hs : s.size ≤ 1099511627776) :
    Calls Tryz.prog 40 #[.string s] w (rQ w s) := by
 obtain ⟨i0, hi, ql, kR, kM⟩ := info_parts Tryz.info21;obtain ⟨j0, gi, P1, QS, QB⟩ := info_parts Tryz.info3;have hle := Bz s s.size 0 (by omega);go_enter Tryz.func40, Tryz.ntmps40;go_wp2_with fail;go_loopw [5, 6, 7, 8] (Gb w s) (fun _ _ _ i _ => s.size - (intOf i).toNat);(case atStart => exact ⟨0, 0, [], [], Nat.zero_le _, rfl, rfl, gZ.nil _ _, kJ.nil _ _, rfl, rfl, by omega, Nat.le_refl _, Nat.le_refl _, Below.refl _ _⟩);obtain ⟨p, n, l, q, hp, rfl, rfl, Jy, hoq, hl, hq, hn, PM, U3, hb⟩ := hrel;have hz := hb.size;have hnb : n ≤ 1099511627776 := (by omega);by_cases hlt : p < s.size
 ·have hd := fj s p hlt;have hs1 := kE s p hlt;have zX := tM s p hlt;have Mf := pT s p hlt;have hone : tW s p = if qb s p then (0, 0) else (((Utf8.decode s p).1 : Int), ((Utf8.decode s p).2 : Int)) := rfl;have GH : qb s p = true → (Utf8.decode s p).1 = 65533 ∧ (Utf8.decode s p).2 = 1 := by
   intro h;unfold qb at h;simpa using h
  generalize (Utf8.decode s p).1 = r at *;generalize (Utf8.decode s p).2 = k at *;rw [hs1] at hl;rw [zX] at hq;rw [Mf] at hn;have HL := Lib.hid hl;have HQ := Lib.hid hq;have HN := Lib.hid hn;have Mk := Lib.hid GH;clear hl hq hn hs1 zX Mf GH;cases gN : qb s p
  ·rw [gN] at HN;rw [gN, if_neg (by simp)] at hone;have HO := Lib.hid hone;have Cr : ((k : Int) == 0) = false := (by rw [beq_eq_false_iff_ne]; omega);clear hone gN;go_wp2_with fail;refine (An s p wr hs hlt).mono ?_;rintro e w1 ⟨rfl, aT⟩;rw [HO.out];dsimp only;have xE := hb.trans (aT.mono hz);have QN := xE.size;have Eo : gZ w1 w.heap.size _ l := gk Jy aT;have zg : kJ w1 w.heap.size _ q := gk hoq aT;clear Jy hoq;obtain ⟨A6, c6, rfl, _⟩ := aP zg;have Jf := Lib.hid Eo;have Bm := Lib.hid (World.ownsRow.alloc zg (.cells #[.int .i64 p] 3));have G6 := Lib.hid (Rd.new w1 3 1 1 [.int .i64 p] rfl);clear Eo zg;go_wp2_with (at_builtin; refine av _ rfl (.tmp 21) (.tmp 23) 67 rfl w.heap.size 3 j0 _ 1 8 Tryz.underlying67 gi P1 QS QB rfl (by decide) _ _ _ rfl Bm.out (w1.heap.size + 1) (some ⟨w1.heap.size, 0, none⟩) 1 1 [.int .i64 p] rfl G6.out ?s1 (by simp only [maxLen]; omega) (by omega) (by simp; omega) ?_);(case s1 => intro u hu; simp at hu; rw [hu]; rfl);intro v6 w2 an;have xF : kJ w2 w.heap.size v6 (q ++ [(p : Int)]) := kJ.of an (by simp) (by simp [iy]);have tI : gZ w2 w.heap.size _ l := fE (World.ownsRow.alloc Jf.out _) Bm.out (by decide) an;have aU : Below w.heap.size w w2 := (xE.alloc (by omega) _).trans (an.below (by simp; omega) Bm.out);clear an Jf Bm;have Pk := aU.size;obtain ⟨A5, c5, rfl, _⟩ := aP tI;have J6 := Lib.hid xF;have zo := Lib.hid (World.ownsRow.alloc tI (.cells #[.int .i32 r] 21));have Jr := Lib.hid (Rd.new w2 21 1 1 [.int .i32 r] rfl);clear tI xF
   go_wp2_with (at_builtin; refine av _ rfl (.tmp 29) (.tmp 31) 61 rfl w.heap.size 21 i0 _ 1 4 Tryz.underlying61 hi ql kR kM rfl (by decide) _ _ _ rfl zo.out (w2.heap.size + 1) (some ⟨w2.heap.size, 0, none⟩) 1 1 [.int .i32 r] rfl Jr.out ?s2 (by simp only [maxLen]; omega) (by omega) (by simp; omega) ?_);(case s2 => intro u hu; simp at hu; rw [hu]; rfl);intro v5 w3 an;have J9 : gZ w3 w.heap.size v5 (l ++ [(r : Int)]) := gZ.of an (by simp) (by simp [ax]);have It : kJ w3 w.heap.size v6 (q ++ [(p : Int)]) := fE (World.ownsRow.alloc J6.out _) zo.out (by decide) an;have bN : Below w.heap.size w w3 := (aU.alloc (by omega) _).trans (an.below (by simp; omega) zo.out);clear an;go_wp2_with fail;exact ⟨⟨p + k, n, l ++ [(r : Int)], q ++ [(p : Int)], by omega, by go_num, rfl, J9, It, by rw [List.append_assoc]; exact HL.out, by rw [List.append_assoc]; exact HQ.out, by have := HN.out; simpa using this, by simp; omega, by simp; omega, bN⟩, by simp [intOf]; omega⟩
  obtain ⟨rfl, rfl⟩ := Mk.out gN;rw [gN] at HN;rw [gN, if_pos rfl] at hone;have HO := Lib.hid hone;clear hone gN;go_wp2_with fail;refine (An s p wr hs hlt).mono ?_;rintro e w1 ⟨rfl, aT⟩;rw [HO.out];dsimp only;have xE := hb.trans (aT.mono hz);have QN := xE.size;have Eo : gZ w1 w.heap.size _ l := gk Jy aT;have zg : kJ w1 w.heap.size _ q := gk hoq aT;clear Jy hoq;obtain ⟨A6, c6, rfl, _⟩ := aP zg;have Jf := Lib.hid Eo;have Bm := Lib.hid (World.ownsRow.alloc zg (.cells #[.int .i64 p] 3));have G6 := Lib.hid (Rd.new w1 3 1 1 [.int .i64 p] rfl);clear Eo zg;go_wp2_with (at_builtin; refine av _ rfl (.tmp 21) (.tmp 23) 67 rfl w.heap.size 3 j0 _ 1 8 Tryz.underlying67 gi P1 QS QB rfl (by decide) _ _ _ rfl Bm.out (w1.heap.size + 1) (some ⟨w1.heap.size, 0, none⟩) 1 1 [.int .i64 p] rfl G6.out ?s3 (by simp only [maxLen]; omega) (by omega) (by simp; omega) ?_);(case s3 => intro u hu; simp at hu; rw [hu]; rfl);intro v6 w2 an;have xF : kJ w2 w.heap.size v6 (q ++ [(p : Int)]) := kJ.of an (by simp) (by simp [iy]);have tI : gZ w2 w.heap.size _ l := fE (World.ownsRow.alloc Jf.out _) Bm.out (by decide) an;have aU : Below w.heap.size w w2 := (xE.alloc (by omega) _).trans (an.below (by simp; omega) Bm.out);clear an Jf Bm;have Pk := aU.size;obtain ⟨A5, c5, rfl, _⟩ := aP tI;have J6 := Lib.hid xF;have zo := Lib.hid (World.ownsRow.alloc tI (.cells #[.int .i32 65533] 21));have Jr := Lib.hid (Rd.new w2 21 1 1 [.int .i32 65533] rfl);clear tI xF;go_wp2_with (at_builtin; refine av _ rfl (.tmp 29) (.tmp 31) 61 rfl w.heap.size 21 i0 _ 1 4 Tryz.underlying61 hi ql kR kM rfl (by decide) _ _ _ rfl zo.out (w2.heap.size + 1) (some ⟨w2.heap.size, 0, none⟩) 1 1 [.int .i32 65533] rfl Jr.out ?s4 (by simp only [maxLen]; omega) (by omega) (by simp; omega) ?_)
  (case s4 => intro u hu; simp at hu; rw [hu]; rfl);intro v5 w3 an;have J9 : gZ w3 w.heap.size v5 (l ++ [65533]) := gZ.of an (by simp) (by simp [ax]);have It : kJ w3 w.heap.size v6 (q ++ [(p : Int)]) := fE (World.ownsRow.alloc J6.out _) zo.out (by decide) an;have bN : Below w.heap.size w w3 := (aU.alloc (by omega) _).trans (an.below (by simp; omega) zo.out);clear an;go_wp2_with fail;exact ⟨⟨p + 1, n + 1, l ++ [65533], q ++ [(p : Int)], by omega, by go_num, by go_num, J9, It, by rw [List.append_assoc]; exact HL.out, by rw [List.append_assoc]; exact HQ.out, by have := HN.out; simp at this; omega, by simp; omega, by simp; omega, bN⟩, by simp [intOf]; omega⟩
 rw [jH s p hlt, List.append_nil] at hl;rw [vG s p hlt, List.append_nil] at hq;rw [nA s p hlt] at hn;obtain ⟨A6, c6, rfl, _⟩ := aP hoq;have Jf := Lib.hid Jy;have Bm := Lib.hid (World.ownsRow.alloc hoq (.cells #[.int .i64 s.size] 3));have G6 := Lib.hid (Rd.new wr 3 1 1 [.int .i64 s.size] rfl);have HL := Lib.hid hl;have HQ := Lib.hid hq;have HN := Lib.hid hn;clear Jy hoq hl hq hn;go_wp2_with (at_builtin; refine av _ rfl (.tmp 37) (.tmp 40) 67 rfl w.heap.size 3 j0 _ 1 8 Tryz.underlying67 gi P1 QS QB rfl (by decide) _ _ _ rfl Bm.out (wr.heap.size + 1) (some ⟨wr.heap.size, 0, none⟩) 1 1 [.int .i64 s.size] rfl G6.out ?s5 (by simp only [maxLen]; omega) (by omega) (by simp; omega) ?_);(case s5 => intro u hu; simp at hu; rw [hu]; rfl);intro v6 w2 an;have xF : kJ w2 w.heap.size v6 (q ++ [(s.size : Int)]) := kJ.of an (by simp) (by simp [iy]);have tI : gZ w2 w.heap.size _ l := fE (World.ownsRow.alloc Jf.out _) Bm.out (by decide) an;have aU : Below w.heap.size w w2 := (hb.alloc (by omega) _).trans (an.below (by simp; omega) Bm.out);clear an;rw [HL.out] at tI;rw [HQ.out] at xF;go_wp2_with fail;go_ret3;unfold rQ;rw [← HN.out];exact ⟨_, _, rfl, tI, xF, aU⟩
theorem xT (A C : Option Addr) (n m c d : Nat) (s : ag) (w : World) (B B' : Nat) (hn : n ≤ 9223372036854775807) (hx : kH w B A n s) (hy : kH w B' C m s) :
    Calls Tryz.prog 12 #[.slice A n c, .slice C m d] w fun e w' => e = .returned (.bool true) ∧ ∃ k, w' = w.drewN k := by
 obtain rfl : n = m := (by rw [← hx.len, ← hy.len]);have HX := Lib.hid hx;have HY := Lib.hid hy;have HL := Lib.hid hx.len;clear hx hy;go_enter Tryz.func12, Tryz.ntmps12;go_wp2;go_loopw [13] (fun i wr => ∃ k q : Nat, k ≤ n ∧ i = .int .i64 k ∧ wr = w.drewN q) (fun i _ => n - (intOf i).toNat);(case atStart => exact ⟨0, 0, Nat.zero_le _, rfl, rfl⟩);obtain ⟨k, q, hk, rfl, rfl⟩ := hrel;by_cases hlt : k < n
 ·obtain ⟨⟨x, y⟩, hz⟩ : ∃ z, s[k]? = some z := ⟨_, List.getElem?_eq_getElem (by rw [HL.out]; exact hlt)⟩;obtain ⟨b1, o1, rfl, aT, c0, c1⟩ := HX.out.at hz;obtain ⟨b2, o2, rfl, aU, d0, d1⟩ := HY.out.at hz;clear hz;go_wp2;go_quiet (fail);go_wp2;refine ⟨⟨k + 1, _, by omega, by go_num, rfl⟩, by simp [intOf]; omega⟩
 obtain rfl : k = n := (by omega);go_wp2;go_ret;exact ⟨rfl, _, rfl⟩
end Go.Proofs.YthnhbcohfoodlaaGreatDoor
