/- Strs + Near + Kinds + Named + Right + Pass + OneLaw + Bits + Hex + Quote + BytesText + RunesValid + Turn + Decode -/
import Derived.Test.YthnhbcohfoodlaaGreatDoorZw2
import Derived.Test.YthnhbcohfoodlaaGreatDoorRows
import Derived.Lib.FrozenHead
import Derived.Lib.ConvBytes
import Derived.Test.YthnhbcohfoodlaaGreatDoorZw1
import Derived.Lib.RuneBytes
import Derived.Lib.MapLaws
import Derived.Laws.Runes
set_option maxHeartbeats 1600000
set_option maxRecDepth 100000
namespace Go.Proofs.YthnhbcohfoodlaaGreatDoor
open Go.RowKit
theorem Ev : (Tryz.prog.info? 9).map (fun i => (i.zero, i.size, i.bytes)) = some (some (.string ⟨#[]⟩), 1, 16) := by kernel_rfl
def jD (l : List (List UInt8)) : List Value := l.map fun x => .string ⟨x.toArray⟩
def eY (w : World) (base : Nat) (v : Value) (l : List (List UInt8)) : Prop := w.ownsRow base 9 1 v l.length (jD l)
theorem eY.nil (w : World) (base : Nat) : eY w base (.slice none 0 0) [] := World.ownsRow_nil _ _ _ _
theorem eY.of {w w' : World} {base n : Nat} {v v' : Value} {xs : List Value} {l : List (List UInt8)}
    (h : bg base 9 1 v w n xs v' w') (hn : l.length = n) (hx : jD l = xs) : eY w' base v' l := by
 subst hn hx;exact h.own
theorem vT (a b : List (List UInt8)) : jD (a ++ b) = jD a ++ jD b := by simp [jD]
theorem eY.rd {w : World} {base : Nat} {A : Option Addr} {n c : Nat} {l : List (List UInt8)} (h : eY w base (.slice A n c) l) (hn : l.length = n) : Rd w w.heap.size 1 A n (jD l) := by
 subst hn;exact Rd.gN h
theorem eY.push {w w2 : World} {base : Nat} {v v' : Value} {x : List UInt8} {X : ByteArray} (hX : (⟨x.toArray⟩ : ByteArray) = X) (l : List (List UInt8)) (h : bg base 9 1 v w (l.length + 1) (jD l ++ [.string X]) v' w2) : eY w2 base v' (l ++ [x]) :=
  eY.of h (by simp) (by rw [vT]; subst hX; rfl)
theorem yu (x : ByteArray) : (⟨x.data.toList.toArray⟩ : ByteArray) = x := by
 apply ByteArray.ext;simp
end Go.Proofs.YthnhbcohfoodlaaGreatDoor
namespace Go.Proofs.YthnhbcohfoodlaaGreatDoor
open Go.RowKit
def Fr (B lo : Nat) (b : Nat) : Prop := b < B ∨ lo ≤ b
theorem iM {α : Type} {l : List α} {k : Nat} {p : α} (h : l[k]? = some p) : l.take (k + 1) = l.take k ++ [p] := by
 rw [List.take_add_one, h]; rfl
theorem pW (w : World) (t1 t2 : TypeId) (c1 c2 : Array Value) : au ((w.alloc (.cells c1 t1)).alloc (.cells c2 t2)) w.heap.size t1 c1 ∧ au ((w.alloc (.cells c1 t1)).alloc (.cells c2 t2)) (w.heap.size + 1) t2 c2 ∧ Below w.heap.size w ((w.alloc (.cells c1 t1)).alloc (.cells c2 t2)) ∧ ((w.alloc (.cells c1 t1)).alloc (.cells c2 t2)).heap.size = w.heap.size + 2 :=
  ⟨au.alloc (au.new _ _ _) _, by simpa using au.new (w.alloc (.cells c1 t1)) t2 c2, ((Below.refl _ _).alloc (Nat.le_refl _) _).alloc (by simp) _, by simp⟩
theorem aj {wx : World} {g g2 i : Nat} {u : Value} {t : TypeId} {cs : Array Value} (h : au wx g2 t cs) (hne : g2 ≠ g) : au (wx.setCell ⟨g, i, none⟩ u) g2 t cs := by
 unfold au at h ⊢;rw [Below.heap_setCell _ _ _ _ hne];exact h
end Go.Proofs.YthnhbcohfoodlaaGreatDoor
namespace Go.Proofs.YthnhbcohfoodlaaGreatDoor
open Go.RowKit
def qb (w : World) (base : Nat) (v : Value) (l : List Int) : Prop := w.ownsRow base 21 1 v l.length (runeCells l)
theorem qb.nil (w : World) (base : Nat) : qb w base (.slice none 0 0) [] := World.ownsRow_nil _ _ _ _
theorem qb.of {w w' : World} {base n : Nat} {v v' : Value} {xs : List Value} {l : List Int}
    (h : bg base 21 1 v w n xs v' w') (hn : l.length = n) (hx : runeCells l = xs) : qb w' base v' l := by
 subst hn hx;exact h.own
theorem Tryz.info21 : (Tryz.prog.info? 21).map (fun i => (i.zero, i.size, i.bytes)) = some (some (.int .i32 0), 1, 4) := by kernel_rfl
theorem qb.rd {w : World} {base : Nat} {A : Option Addr} {n c : Nat} {l : List Int} (h : qb w base (.slice A n c) l) (hn : l.length = n) : N8 w w.heap.size A n l := by
 subst hn;exact Rd.gN h
theorem Tryz.info3 : (Tryz.prog.info? 3).map (fun i => (i.zero, i.size, i.bytes)) = some (some (.int .i64 0), 1, 8) := by kernel_rfl
end Go.Proofs.YthnhbcohfoodlaaGreatDoor
namespace Go.Proofs.YthnhbcohfoodlaaGreatDoor
open Go.RowKit
def ie (i : Nat) (c : UInt8) : Bool := decide ((97 ≤ c.toNat ∧ c.toNat ≤ 122) ∨ c.toNat = 95 ∨ (0 < i ∧ 48 ≤ c.toNat ∧ c.toNat ≤ 57))
def cV (s : ByteArray) : Bool := decide (1 ≤ s.size ∧ s.size ≤ 20 ∧ ∀ i (h : i < s.size), ie i s[i] = true)
theorem JI {s : ByteArray} {j : Nat} (h : j < s.size) (hc : ie j s[j] = false) : cV s = false := by
 unfold cV;rw [decide_eq_false_iff_not];intro h2;rw [h2.2.2 j h] at hc;cases hc
def RJ (w : World) (s : ByteArray) (i : Value) (wr : World) : Prop :=
  ∃ j : Nat, j ≤ s.size ∧ i = .int .i64 j ∧ (∀ k (h : k < s.size), k < j → ie k s[k] = true) ∧ wr = w
theorem KH {s : ByteArray} {j : Nat} (h : j < s.size) (hc : ie j s[j] = true) (hp : ∀ k (h : k < s.size), k < j → ie k s[k] = true) : ∀ k (h : k < s.size), k < j + 1 → ie k s[k] = true := by
 intro k hk hlt;by_cases e : k = j
 ·subst e; exact hc
 exact hp k hk (by omega)
theorem iV (s : ByteArray) (w : World) :
    Calls Tryz.prog 24 #[.string s] w fun e w' => e = .returned (.bool (cV s)) ∧ w = w' := by
 by_cases hs : 1 ≤ s.size ∧ s.size ≤ 20
 ·obtain ⟨hs1, Jq⟩ := hs;go_enter Tryz.func24, Tryz.ntmps24;go_wp2_with fail;go_loopw [15] (RJ w s) (fun i _ => s.size - (intOf i).toNat);(case atStart => exact ⟨0, Nat.zero_le _, rfl, by omega, rfl⟩);obtain ⟨j, hj, rfl, hall, rfl⟩ := hrel;by_cases hlt : j < s.size
  ·have hx : s[j].toNat < 256 := UInt8.toNat_lt s[j];cases hc : ie j s[j]
   ·have HN := Lib.hid (JI hlt hc);have jj : s[j].toNat < 48 ∨ (57 < s[j].toNat ∧ s[j].toNat < 95) ∨ (95 < s[j].toNat ∧ s[j].toNat < 97) ∨ 122 < s[j].toNat ∨ (j = 0 ∧ 48 ≤ s[j].toNat ∧ s[j].toNat ≤ 57) := by
     simp [ie] at hc;omega
    have Vy : ((s[j].toNat : Int) != 95) = true := (by simp; omega);clear hc hall;by_cases hj0 : j = 0
    ·subst hj0;rcases (show s[0].toNat < 97 ∨ 122 < s[0].toNat by omega) with h1 | h1
     all_goals
       go_wp2_with fail
       go_ret
       rw [HN.out]
       exact ⟨rfl, rfl⟩
    have V5 : ((j : Int) == 0) = false := (by simp; omega);rcases (show s[j].toNat < 48 ∨ (57 < s[j].toNat ∧ s[j].toNat < 97) ∨ 122 < s[j].toNat by omega) with h1 | ⟨h1, h2⟩ | h1
    all_goals
      go_wp2_with fail
      go_ret
      rw [HN.out]
      exact ⟨rfl, rfl⟩
   have HA := Lib.hid (KH hlt hc hall);have jj : (97 ≤ s[j].toNat ∧ s[j].toNat ≤ 122) ∨ s[j].toNat = 95 ∨ (0 < j ∧ 48 ≤ s[j].toNat ∧ s[j].toNat ≤ 57) := by
    simpa [ie] using hc
   clear hc hall;rcases jj with ⟨h1, h2⟩ | h1 | ⟨h1, h2, h3⟩
   ·go_wp2_with fail;exact ⟨⟨j + 1, by omega, by go_num, HA.out, rfl⟩, by simp [intOf]; omega⟩
   ·have Vy : ((s[j].toNat : Int) != 95) = false := (by simp; omega);go_wp2_with fail;exact ⟨⟨j + 1, by omega, by go_num, HA.out, rfl⟩, by simp [intOf]; omega⟩
   have Vy : ((s[j].toNat : Int) != 95) = true := (by simp; omega);have V5 : ((j : Int) == 0) = false := (by simp; omega);go_wp2_with fail;exact ⟨⟨j + 1, by omega, by go_num, HA.out, rfl⟩, by simp [intOf]; omega⟩
  have hP : cV s = true := by
   unfold cV;rw [decide_eq_true_iff];exact ⟨hs1, Jq, fun i h => hall i h (by omega)⟩
  have HP := Lib.hid hP;clear hall hP;go_wp2_with fail;go_ret;rw [HP.out];exact ⟨rfl, rfl⟩
 have HP := Lib.hid (show cV s = false by
  unfold cV;rw [decide_eq_false_iff_not];exact fun h => hs ⟨h.1, h.2.1⟩)
 have Jq : s.size < 1 ∨ (1 ≤ s.size ∧ 20 < s.size) := (by omega);clear hs;rcases Jq with h1 | ⟨h1, h2⟩
 all_goals
   go_enter Tryz.func24, Tryz.ntmps24
   go_wp2_with fail
   go_ret
   rw [HP.out]
   exact ⟨rfl, rfl⟩
end Go.Proofs.YthnhbcohfoodlaaGreatDoor
namespace Go.Proofs.YthnhbcohfoodlaaGreatDoor
open Go.RowKit
def aU (r : Int) : Bool := decide ((0 ≤ r ∧ r < 55296) ∨ (57343 < r ∧ r ≤ 1114111))
theorem cI {r : Int} (h : aU r = true) : 0 ≤ r ∧ r ≤ 1114111 := by
 simp [aU] at h;omega
theorem Dm (r : Int) (w : World) :
    Calls Tryz.prog 141 #[.int .i32 r] w fun e w' => e = .returned (.bool (aU r)) ∧ w = w' := by
 go_enter Tryz.func141, Tryz.ntmps141;go_wp2;(all_goals go_ret);(all_goals refine ⟨e9 ?_, rfl⟩);(all_goals (rw [Bool.eq_iff_iff]; simp [aU]; try omega))
theorem fU (r : Int) (w : World) :
    Calls Tryz.prog 87 #[.int .i32 r] w fun e w' => e = .returned (.bool (aU r)) ∧ w = w' := by
 go_enter Tryz.func87, Tryz.ntmps87;go_wp2_with (go_at_call 141; refine (Dm _ _).mono ?_; rintro e w' ⟨rfl, rfl⟩);go_ret;exact ⟨rfl, rfl⟩
end Go.Proofs.YthnhbcohfoodlaaGreatDoor
namespace Go.Proofs.YthnhbcohfoodlaaGreatDoor
open Go.RowKit
def jH : ByteArray := ⟨#[108, 111, 119, 101, 114]⟩
def uO : ByteArray := ⟨#[110, 117, 108, 108]⟩
def qE : ByteArray := ⟨#[114, 101, 109, 111, 118, 101]⟩
def jI : ByteArray := ⟨#[117, 112, 112, 101, 114]⟩
def og (s : ByteArray) (l : List ByteArray) : Bool := l.any fun t => s.toList == t.toList
def ku (s : ByteArray) : Bool := og s [jH, uO, qE, jI]
theorem Hg (s t : ByteArray) (l : List ByteArray) : og s (t :: l) = ((s.toList == t.toList) || og s l) := rfl
theorem G8 {α : Type} {l : List α} {j : Nat} {x : α} (h : l[j]? = some x) : l.drop j = x :: l.drop (j + 1) := by
 obtain ⟨hj, rfl⟩ := List.getElem?_eq_some_iff.1 h;exact List.drop_eq_getElem_cons hj
def QD (W : World) (s : ByteArray) (l : List ByteArray) (n : Nat) (i : Value) (wr : World) : Prop :=
  ∃ k : Nat, k ≤ n ∧ i = .int .i64 k ∧ og s l = og s (l.drop k) ∧ wr = W
theorem Gx (b off n c : Nat) (s : ByteArray) (l : List ByteArray) (hn : l.length = n) (hm : n ≤ 9223372036854775807) (w : World) (hl : ∀ k t, l[k]? = some t → w.cell? ⟨b, off + k, none⟩ = some (.string t)) :
    Calls Tryz.prog 146 #[.slice (some ⟨b, off, none⟩) n c, .string s] w fun e w' => (∃ z : Int, e = .returned (.int .i64 z) ∧ decide (0 ≤ z) = og s l) ∧ w = w' := by
 have HL := Lib.hid hl;have HN := Lib.hid hn;clear hl hn;go_enter Tryz.func146, Tryz.ntmps146;go_wp2_with fail;go_loopw [8] (QD w s l n) (fun i _ => n - (intOf i).toNat);(case atStart => exact ⟨0, Nat.zero_le _, rfl, rfl, rfl⟩);obtain ⟨k, hk, rfl, bU, rfl⟩ := hrel;by_cases hlt : k < n
 ·obtain ⟨t, ht⟩ : ∃ z, l[k]? = some z := ⟨_, List.getElem?_eq_getElem (by rw [HN.out]; exact hlt)⟩;have d0 := HL.out k t ht;rw [G8 ht, Hg] at bU;cases he : s.toList == t.toList
  ·rw [he, Bool.false_or] at bU;have HG := Lib.hid bU;clear bU;go_wp2_with fail;exact ⟨⟨k + 1, by omega, by go_num, HG.out, rfl⟩, by simp [intOf]; omega⟩
  rw [he, Bool.true_or] at bU;have HG := Lib.hid bU;clear bU;go_wp2_with fail;go_ret;exact ⟨⟨_, rfl, by rw [HG.out]; simp⟩, rfl⟩
 obtain rfl : k = n := (by omega);rw [List.drop_of_length_le (by rw [HN.out]; omega)] at bU;have HG := Lib.hid (bU.trans (show og s [] = false from rfl));clear bU;go_wp2_with fail;go_ret;exact ⟨⟨_, rfl, by rw [HG.out]; simp⟩, rfl⟩
theorem KA (b off n c : Nat) (s : ByteArray) (l : List ByteArray) (hn : l.length = n) (hm : n ≤ 9223372036854775807) (w : World) (hl : ∀ k t, l[k]? = some t → w.cell? ⟨b, off + k, none⟩ = some (.string t)) :
    Calls Tryz.prog 96 #[.slice (some ⟨b, off, none⟩) n c, .string s] w fun e w' => e = .returned (.bool (og s l)) ∧ w = w' := by
 have H := Lib.hid (Gx b off n c s l hn hm w hl);clear hl hn;go_enter Tryz.func96, Tryz.ntmps96;go_wp2_with fail;refine H.out.mono ?_;rintro e w2 ⟨⟨z, rfl, hz⟩, rfl⟩;have HZ := Lib.hid hz;clear hz;go_wp2_with fail;go_ret;exact ⟨e9 HZ.out, rfl⟩
theorem mO (w : World) :
    Calls Tryz.prog 97 #[] w fun e w' => e = .returned (.slice (some ⟨w.heap.size, 0, none⟩) 4 4) ∧ w' = w.alloc (.cells #[.string jH, .string uO, .string qE, .string jI] 9) := by
 go_enter Tryz.func97, Tryz.ntmps97;go_wp2_with fail;go_ret;exact ⟨rfl, rfl⟩
theorem Ay (b : Nat) (s : ByteArray) (v : Bool) (hv : ku s = v) (w : World) (h : au w b 9 #[.string jH, .string uO, .string qE, .string jI]) :
    Calls Tryz.prog 96 #[.slice (some ⟨b, 0, none⟩) 4 4, .string s] w fun e w' => e = .returned (.bool v) ∧ w = w' := by
 subst hv;refine KA b 0 4 4 s [jH, uO, qE, jI] rfl (by decide) w fun k t hk => ?_;rw [Nat.zero_add, h.cell];match k, hk with
 | 0, hk => cases hk; rfl
 | 1, hk => cases hk; rfl
 | 2, hk => cases hk; rfl
 | 3, hk => cases hk; rfl
end Go.Proofs.YthnhbcohfoodlaaGreatDoor
namespace Go.Proofs.YthnhbcohfoodlaaGreatDoor
open Go.RowKit
def jm (s : ByteArray) (p : Nat) : Int := ((s.get! p).toNat : Int)
theorem nQ (s : ByteArray) (p : Nat) (h : p < s.size) : ((s[p]'h).toNat : Int) = jm s p := by
 unfold jm;have e := get_at s p h;rw [Nat.add_zero] at e;rw [e]
def part (s : ByteArray) (p : Nat) (x0 : Int) : Nat → Int
  | 0 => x0
  | k + 1 => part s p x0 k * 64 + jm s (p + (k + 1)) % 64
end Go.Proofs.YthnhbcohfoodlaaGreatDoor
namespace Go.Proofs.YthnhbcohfoodlaaGreatDoor
open Go.RowKit
theorem Nu (w : World) : Calls Tryz.prog 189 #[.int .i64 16] w fun e w' => e = .returned (.bool true) ∧ w = w' := by
 have hb : bits BinOp.and IntKind.i64 16 15 = 0 := (by decide +kernel);go_enter Tryz.func189, Tryz.ntmps189;go_wp2;go_ret;exact ⟨rfl, rfl⟩
theorem VW (w : World) (hd : w.cell? ⟨5, 15, none⟩ = some (.int .u8 4)) : Calls Tryz.prog 203 #[.int .u64 16] w fun e w' => e = .returned (.int .i64 4) ∧ w = w' := by
 have hb : bits BinOp.and IntKind.u64 16 (IntKind.u64.wrap (-16)) = 16 := (by decide +kernel);have hm : IntKind.u64.wrap (16 * 285870213051353865) / 288230376151711744 = 15 := (by decide +kernel);go_enter Tryz.func203, Tryz.ntmps203;go_wp2;go_ret;exact ⟨rfl, rfl⟩
theorem tz (w : World) (hd : w.cell? ⟨5, 15, none⟩ = some (.int .u8 4)) : Calls Tryz.prog 190 #[.int .u64 16] w fun e w' => e = .returned (.int .i64 4) ∧ w = w' := by
 go_enter Tryz.func190, Tryz.ntmps190;go_wp2_with (go_at_call 203; refine (VW _ hd).mono ?_; rintro e w' ⟨rfl, rfl⟩);go_ret;exact ⟨rfl, rfl⟩
end Go.Proofs.YthnhbcohfoodlaaGreatDoor
namespace Go.Proofs.YthnhbcohfoodlaaGreatDoor
open Go.RowKit
def oO (d : Nat) : UInt8 := if d < 10 then UInt8.ofNat (48 + d) else UInt8.ofNat (87 + d)
def lM (n : Nat) : List UInt8 := if n < 16 then [oO n] else lM (n / 16) ++ [oO (n % 16)]
termination_by n
decreasing_by omega
theorem eN {n : Nat} (h : n < 16) : lM n = [oO n] := by rw [lM, if_pos h]
theorem mK {n : Nat} (h : 16 ≤ n) : lM n = lM (n / 16) ++ [oO (n % 16)] := by rw [lM, if_neg (by omega)]
theorem nc (d n : Nat) (h : n < 16 ^ (d + 1)) : (lM n).length ≤ d + 1 := by
 induction d generalizing n with
 | zero => rw [eN (by simpa using h)]; simp
 | succ d ih =>
  by_cases h1 : n < 16
  ·rw [eN h1]; simp
  rw [mK (by omega), List.length_append];have := ih (n / 16) (by rw [Nat.pow_succ] at h; omega);simp; omega
theorem zW {cs : Array Value} {q : Nat} {l : List Value} {v : Value} (h : cs.toList.drop (q + 1) = l) (hq : q < cs.size) : (cs.setIfInBounds q v).toList.drop q = v :: l := by
 rw [Array.toList_setIfInBounds, List.drop_eq_getElem_cons (by simpa using hq), List.getElem_set_self, List.drop_set_of_lt (by omega), h]
def Qj (w : World) (n : Nat) (i u : Value) (wr : World) : Prop :=
  ∃ (p rem d : Nat) (acc : List UInt8) (cs : Array Value), i = .int .i64 p ∧ u = .int .u64 rem ∧ p + acc.length = 65 ∧ acc.length + d + 1 = 6 ∧ rem < 16 ^ (d + 1) ∧ lM n = lM rem ++ acc ∧
    au wr w.heap.size 223 cs ∧ cs.size = 65 ∧ cs.toList.drop p = Lib.byteCells acc ∧ Below w.heap.size w wr
theorem Qb (rem : Nat) (h : rem < 16777216) : bits BinOp.and IntKind.u64 (rem : Int) 15 = ((rem % 16 : Nat) : Int) := by
 have h := bits_mask .u64 63 (by decide) (fun n h0 h1 => by rw [show (2 : Int) ^ 63 = 9223372036854775808 by decide] at h1; rw [IntKind.wrap_u64]; omega) 4 (by decide) (rem : Int) (by omega) (by rw [show (2 : Int) ^ 63 = 9223372036854775808 by decide]; omega);rw [show ((2 : Int) ^ 4 - 1) = 15 by decide] at h;rw [h];omega
def digits : ByteArray := ⟨#[48, 49, 50, 51, 52, 53, 54, 55, 56, 57, 97, 98, 99, 100, 101, 102, 103, 104, 105, 106, 107, 108, 109, 110, 111, 112, 113, 114, 115, 116, 117, 118, 119, 120, 121, 122]⟩
theorem Le : ∀ i : Fin 16, digits[i.val]'(Nat.lt_trans i.2 (by decide)) = oO i.val := by decide
theorem Xe (k : Nat) (hk : k < 16) (h : k < digits.size) : digits[k]'h = oO k := Le ⟨k, hk⟩
theorem M8 (w : World) : (zeroValue 223).run Tryz.prog w = .ok (.agg (Array.replicate 65 (.int .u8 0))) w := by kernel_rfl
theorem KF (g q : Nat) (hq : q < 65) (w : World) : (Instr.sliceAt 223 (.pointer (some ⟨g, 0, none⟩)) (some (.int .i64 q)) none none).run Tryz.prog w = .ok (.slice (some ⟨g, q, none⟩) (65 - q) (65 - q)) w := by
 have h1 : Tryz.prog.arrayLen 223 = 65 := (by kernel_rfl);have h2 : Tryz.prog.elem 223 = 5 := (by kernel_rfl);have h3 : ∀ w, (sizeOf 5).run Tryz.prog w = .ok 1 w := fun w => (by kernel_rfl);rw [run_sliceAt_array_l w _ _ (by rw [h1, h2]; exact Tryz.underlying223) .i64 q (by omega) (by rw [h1]; omega), h1, h2, h3];simp only [Result.andThen, slicedAt, Int.toNat_natCast, Nat.mul_one];rw [if_neg (by omega)];simp [Addr.add];intro h;exact h.symm
theorem NT (w : World) (g q : Nat) (l : List UInt8) (hl : l.length = 65 - q) (cs : Array Value) (hb : au w g 223 cs) (hd : cs.toList.drop q = Lib.byteCells l) : (convert 76 9 (.slice (some ⟨g, q, none⟩) (65 - q) (65 - q))).run Tryz.prog w = .ok (.string ⟨l.toArray⟩) w := by
 rw [← hl];refine run_convert_bytes_back w 76 9 5 ⟨g, q, none⟩ _ l Tryz.underlying76 Tryz.underlying5 Tryz.underlying9 (fun j hj => ?_);have e : (⟨g, q, none⟩ : Addr).add j = ⟨g, q + j, none⟩ := (by simp [Addr.add]);rw [e, hb.cell, ← Array.getElem?_toList, ← List.getElem?_drop, hd];simp [Lib.byteCells, List.getElem?_eq_getElem hj]
theorem zv (n : Nat) (hn : n < 16777216) (w : World) (hd : w.cell? ⟨5, 15, none⟩ = some (.int .u8 4)) :
    Calls Tryz.prog 167 #[.slice none 0 0, .int .u64 n, .int .i64 16, .bool false, .bool false] w fun e w' => e = .returned (.tuple #[.slice none 0 0, .string ⟨(lM n).toArray⟩]) ∧ Below w.heap.size w w' := by
 obtain ⟨Z, hZ, SX⟩ : ∃ Z, Z = Array.replicate 65 (Value.int .u8 0) ∧ Z.size = 65 := ⟨_, rfl, by simp⟩;have abd : ∀ w, (zeroValue 223).run Tryz.prog w = .ok (.agg Z) w := fun w => (by rw [hZ]; exact M8 w);have HZ := Lib.hid SX;clear hZ SX;have hlt : 5 < w.heap.size := by
  rcases Nat.lt_or_ge 5 w.heap.size with h | h;exact h;exfalso;unfold World.cell? at hd;simp [Array.getElem?_eq_none h] at hd
 have nY : (w.alloc (.cells Z 223)).cell? ⟨5, 15, none⟩ = some (.int .u8 4) := (((Below.refl w.heap.size w).alloc (Nat.le_refl _) _).cell hlt).trans hd;go_enter Tryz.func167, Tryz.ntmps167;go_wp2_with (first | (go_at_call 189; refine (Nu _).mono ?_; rintro e w' ⟨rfl, rfl⟩) | (go_at_call 190; refine (tz _ nY).mono ?_; rintro e w' ⟨rfl, rfl⟩));go_loopw [13, 1] (Qj w n) (fun _ u _ => (intOf u).toNat);(case atStart => exact ⟨65, n, 5, [], Z, rfl, rfl, rfl, rfl, by simpa using hn, by rw [List.append_nil], au.new _ _ _, HZ.out, by rw [List.drop_of_length_le (by rw [Array.length_toList, HZ.out]; exact Nat.le_refl _)]; rfl, (Below.refl _ _).alloc (Nat.le_refl _) _⟩);obtain ⟨p, rem, d, acc, cs, rfl, rfl, hp, XE, qF, Lw, kV, hcs, Ec, hb⟩ := hrel;have hz := hb.size;obtain ⟨q, rfl⟩ : ∃ q, p = q + 1 := ⟨p - 1, by omega⟩;have CE : rem < 16777216 := Nat.lt_of_lt_of_le qF (by have : 16 ^ (d + 1) ≤ 16 ^ 6 := Nat.pow_le_pow_right (by omega) (by omega); simpa using this);by_cases h16 : 16 ≤ rem
 ·have ha := Qb rem (by omega);have c0 : wr.cell? ⟨w.heap.size, q, none⟩ = some cs[q] := (by rw [kV.cell, Array.getElem?_eq_getElem]);have f0 := kV.frozen q;have hqw : IntKind.i64.wrap (q : Int) = (q : Int) := IntWalk.i64_in _ (by omega);have HH := Lib.hid Lw;have HR := Lib.hid qF;have HB := Lib.hid kV;have HD := Lib.hid Ec;clear Lw qF kV Ec;go_wp2_with fail;have he := Xe (rem % 16) (by omega) (by show _ < 36; omega);unfold digits at he;rw [he];obtain ⟨d, rfl⟩ : ∃ e, d = e + 1 := by
   rcases Nat.eq_zero_or_pos d with rfl | h
   ·have := HR.out; simp at this; omega
   exact ⟨d - 1, by omega⟩
  refine ⟨⟨q, rem / 16, d, oO (rem % 16) :: acc, _, rfl, by simp, by simp; omega, by simp; omega, ?_, ?_, HB.out.put _ _, by simpa using hcs, ?_, hb.setCell (Nat.le_refl _) _⟩, ?_⟩
  ·have := HR.out;rw [Nat.pow_succ] at this;omega
  ·rw [HH.out, mK h16, List.append_assoc]; rfl
  exact zW HD.out (by omega);simp only [intOf]; omega
 have c0 : wr.cell? ⟨w.heap.size, q, none⟩ = some cs[q] := (by rw [kV.cell, Array.getElem?_eq_getElem]);have f0 := kV.frozen q;have hqw : IntKind.i64.wrap (q : Int) = (q : Int) := IntWalk.i64_in _ (by omega);have HH := Lib.hid Lw;have HB := Lib.hid kV;have HD := Lib.hid Ec;have Vt : rem < 16 := (by omega);clear Lw qF kV Ec;have he := Xe rem Vt (by show _ < 36; omega);unfold digits at he;have tC := KF w.heap.size q (by omega);have tD := NT (wr.setCell ⟨w.heap.size, q, none⟩ (.int .u8 (oO rem).toNat)) w.heap.size q (lM n) (by rw [HH.out, eN Vt]; simp; omega) _ (HB.out.put q _) (by rw [zW HD.out (by omega), HH.out, eN Vt]; rfl);go_wp2_with fail;go_ret2;exact ⟨rfl, hb.setCell (Nat.le_refl _) _⟩
theorem C8 (n : Nat) (hn : n < 16777216) (w : World) (hd : w.cell? ⟨5, 15, none⟩ = some (.int .u8 4)) :
    Calls Tryz.prog 142 #[.int .i64 n, .int .i64 16] w fun e w' => e = .returned (.string ⟨(lM n).toArray⟩) ∧ Below w.heap.size w w' := by
 have hw : IntKind.u64.wrap (n : Int) = (n : Int) := IntWalk.u64_in _ (by omega);have hneg : decide ((n : Int) < 0) = false := decide_eq_false (by omega);go_enter Tryz.func142, Tryz.ntmps142;go_wp2_with fail;refine (zv n hn _ hd).mono ?_;rintro e w' ⟨rfl, hb⟩;go_wp2_with fail;go_ret;exact ⟨rfl, hb⟩
theorem Bm (n : Nat) (hn : n < 16777216) (w : World) (hd : w.cell? ⟨5, 15, none⟩ = some (.int .u8 4)) :
    Calls Tryz.prog 88 #[.int .i64 n, .int .i64 16] w fun e w' => e = .returned (.string ⟨(lM n).toArray⟩) ∧ Below w.heap.size w w' := by
 go_enter Tryz.func88, Tryz.ntmps88;go_wp2_with fail;refine (C8 n hn _ hd).mono ?_;rintro e w' ⟨rfl, hb⟩;go_wp2_with fail;go_ret;exact ⟨rfl, hb⟩
theorem qZ (X Y : List UInt8) : (⟨X.toArray⟩ : ByteArray) ++ ⟨Y.toArray⟩ = ⟨(X ++ Y).toArray⟩ := by
 apply ByteArray.ext;simp
end Go.Proofs.YthnhbcohfoodlaaGreatDoor
namespace Go.Proofs.YthnhbcohfoodlaaGreatDoor
open Go.RowKit
def jq (r : Int) : Bool := decide ((48 ≤ r ∧ r ≤ 57) ∨ (65 ≤ r ∧ r ≤ 90) ∨ (97 ≤ r ∧ r ≤ 122))
def dK (r : Int) : List UInt8 := if jq r = true ∨ (126 < r ∧ aU r = true) then Lib.encodeRune r else [92, 117, 123] ++ lM r.toNat ++ [125]
theorem M0 (r : Int) (hr : aU r = true) : Utf8.encode r = ⟨(Lib.encodeRune r).toArray⟩ := by
 have h0 := (cI hr).1;have hv : Utf8.valid r = true := by
  simp [aU] at hr;simp [Utf8.valid];omega
 obtain ⟨n, rfl⟩ : ∃ n : Nat, r = n := ⟨r.toNat, by omega⟩;unfold Utf8.encode;simp only [hv, if_true, Int.toNat_natCast];simp [aU] at hr;apply ByteArray.ext;by_cases h1 : n < 128
 ·rw [if_pos h1, Lib.encodeRune, Lib.encodeRuneZ_one (by omega) (by omega)];simp
 by_cases h2 : n < 2048
 ·rw [if_neg h1, if_pos h2, Lib.encodeRune, Lib.encodeRuneZ_two (by omega) (by omega)];simp only [List.map_cons, List.map_nil, Nat.toUInt8_eq];rw [show (192 + (n : Int) / 64).toNat = 192 + n / 64 by omega, show (128 + (n : Int) % 64).toNat = 128 + n % 64 by omega]
 by_cases h3 : n < 65536
 ·rw [if_neg h1, if_neg h2, if_pos h3, Lib.encodeRune, Lib.encodeRuneZ_three (by omega)];simp only [List.map_cons, List.map_nil, Nat.toUInt8_eq];rw [show (224 + (n : Int) / 4096).toNat = 224 + n / 4096 by omega, show (128 + (n : Int) / 64 % 64).toNat = 128 + n / 64 % 64 by omega, show (128 + (n : Int) % 64).toNat = 128 + n % 64 by omega]
 rw [if_neg h1, if_neg h2, if_neg h3, Lib.encodeRune, Lib.encodeRuneZ_four (by omega) (by omega)];simp only [List.map_cons, List.map_nil, Nat.toUInt8_eq];rw [show (240 + (n : Int) / 262144).toNat = 240 + n / 262144 by omega, show (128 + (n : Int) / 4096 % 64).toNat = 128 + n / 4096 % 64 by omega, show (128 + (n : Int) / 64 % 64).toNat = 128 + n / 64 % 64 by omega, show (128 + (n : Int) % 64).toNat = 128 + n % 64 by omega]
theorem rR {r : Int} (h : jq r = true) : aU r = true := by
 simp [jq] at h;simp [aU];omega
theorem lF (r : Int) (h0 : 0 ≤ r) (h1 : r ≤ 1114111) : (dK r).length ≤ 10 := by
 unfold dK;split
 ·have : (Lib.encodeRune r).length ≤ 4 := (by rw [← Lib.runeCells_length]; exact (Lib.runeCells_le r).2);omega
 have := nc 5 r.toNat (by omega);simp; omega
theorem Fw {r : Int} (h : ¬(jq r = true ∨ (126 < r ∧ aU r = true))) : r < 48 ∨ (57 < r ∧ r < 65) ∨ (90 < r ∧ r < 97) ∨ (122 < r ∧ r ≤ 126) ∨ (126 < r ∧ aU r = false) := by
 simp [jq] at h;by_cases QL : 126 < r
 ·have := h.2 QL;simp [QL, this]
 omega
theorem jE (r : Int) (h0 : 0 ≤ r) (h1 : r ≤ 1114111) (w : World) (hd : w.cell? ⟨5, 15, none⟩ = some (.int .u8 4)) :
    Calls Tryz.prog 47 #[.int .i32 r] w fun e w' => e = .returned (.string ⟨(dK r).toArray⟩) ∧ Below w.heap.size w w' := by
 by_cases hq : jq r = true ∨ (126 < r ∧ aU r = true)
 ·have hP : dK r = Lib.encodeRune r := if_pos hq;rw [hP, ← M0 r (hq.elim rR (·.2))];clear hP;have xE : (48 ≤ r ∧ r ≤ 57) ∨ (65 ≤ r ∧ r ≤ 90) ∨ (97 ≤ r ∧ r ≤ 122) ∨ (126 < r ∧ aU r = true) := (by simpa [jq, or_assoc] using hq);clear hq;rcases xE with ⟨h2, h3⟩ | ⟨h2, h3⟩ | ⟨h2, h3⟩ | ⟨h2, h3⟩
  all_goals
    go_enter Tryz.func47, Tryz.ntmps47
    go_wp2_with (go_at_call 87; refine (fU _ _).mono ?_; rintro e w' ⟨rfl, rfl⟩)
    go_ret
    exact ⟨rfl, Below.refl _ _⟩
 have hP : dK r = [92, 117, 123] ++ lM r.toNat ++ [125] := if_neg hq;have xE := Fw hq;rw [hP, ← qZ, ← qZ];clear hq hP;obtain ⟨n, rfl⟩ : ∃ n : Nat, r = n := ⟨r.toNat, by omega⟩;rw [Int.toNat_natCast];have hX := nc 5 n (by omega);have hc : n < 16777216 := (by omega);have hR : aU n = false → ∀ w, Calls Tryz.prog 87 #[.int .i32 n] w fun e w' => e = .returned (.bool false) ∧ w = w' := fun h w => by
  have := fU n w;rwa [h] at this
 rcases xE with h2 | ⟨h2, h3⟩ | ⟨h2, h3⟩ | ⟨h2, h3⟩ | ⟨h2, h3⟩
 all_goals
   first
     | (have H3 := Lib.hid (hR h3); clear h3)
     | skip
   clear hR
   go_enter Tryz.func47, Tryz.ntmps47
   go_wp2_with (go_at_call 87; refine (H3.out _).mono ?_; rintro e w' ⟨rfl, rfl⟩)
   refine (Bm n hc _ hd).mono ?_
   rintro e w' ⟨rfl, hb⟩
   go_wp2_with fail
   go_ret
   exact ⟨rfl, hb⟩
end Go.Proofs.YthnhbcohfoodlaaGreatDoor
namespace Go.Proofs.YthnhbcohfoodlaaGreatDoor
open Go.RowKit
def bytesOf (l : List Int) : List UInt8 := l.flatMap Lib.encodeRune
end Go.Proofs.YthnhbcohfoodlaaGreatDoor
namespace Go.Proofs.YthnhbcohfoodlaaGreatDoor
theorem qa (s : ByteArray) (p : Nat) : aU ((Utf8.decode s p).1 : Int) = true := by
 rw [Lib.decode_at];have key : ∀ n b0 b1 b2 b3, aU ((Lib.decodeN n b0 b1 b2 b3).1 : Int) = true := by
  intro n b0 b1 b2 b3;unfold Lib.decodeN;(repeat' split);(all_goals simp [aU]);(all_goals omega)
 exact key _ _ _ _ _
theorem wV (s : ByteArray) : ∀ (f p : Nat), s.size - p ≤ f → (cM s p).all aU = true := by
 intro f;induction f with
 | zero => intro p h; rw [dD s p (by omega)]; rfl
 | succ f ih =>
  intro p h;by_cases hp : p < s.size
  ·have hd := fI s p hp;rw [fu s p hp, List.all_cons, qa s p, ih _ (by omega)];rfl
  rw [dD s p hp]; rfl
theorem wH (s : ByteArray) : ∀ x ∈ cM s 0, Utf8.valid x = true := by
 intro x hx;have := List.all_eq_true.1 (wV s s.size 0 (by omega)) x hx;rw [validRune_eq];unfold validRune;simpa [aU] using this
end Go.Proofs.YthnhbcohfoodlaaGreatDoor
namespace Go.Proofs.YthnhbcohfoodlaaGreatDoor
theorem gF (z : Int) (_h0 : 0 ≤ z) (h1 : z < 256) : (z.toNat.toUInt8).toNat = z.toNat := by
 simp [Nat.toUInt8, UInt8.toNat_ofNat'];omega
theorem Df (r : Int) (h : aU r = true) : Utf8.decode ⟨(Lib.encodeRune r).toArray⟩ 0 = (r.toNat, (Lib.encodeRune r).length) := by
 have Pw := cI h;simp [aU] at h;have key : Lib.decodeL (Lib.encodeRune r) = (r.toNat, (Lib.encodeRune r).length) := by
  rw [Lib.decodeL_N];unfold Lib.encodeRune;by_cases h1 : r ≤ 127
  ·rw [Lib.encodeRuneZ_one Pw.1 h1];simp only [List.map_cons, List.map_nil, List.length_cons, List.length_nil, List.getD_cons_zero];rw [gF r (by omega) (by omega)];unfold Lib.decodeN;rw [if_pos (by omega)]
  by_cases h2 : r ≤ 2047
  ·rw [Lib.encodeRuneZ_two (by omega) h2];simp only [List.map_cons, List.map_nil, List.length_cons, List.length_nil, List.getD_cons_zero, List.getD_cons_succ];rw [gF _ (by omega) (by omega), gF (128 + r % 64) (by omega) (by omega)];unfold Lib.decodeN;rw [if_neg (by omega), if_pos (by omega), if_pos (by omega)];congr 1;omega
  by_cases h3 : r ≤ 65535
  ·rw [Lib.encodeRuneZ_three (by omega)];simp only [List.map_cons, List.map_nil, List.length_cons, List.length_nil, List.getD_cons_zero, List.getD_cons_succ];rw [gF _ (by omega) (by omega), gF (128 + r / 64 % 64) (by omega) (by omega), gF (128 + r % 64) (by omega) (by omega)];unfold Lib.decodeN;rw [if_neg (by omega), if_neg (by omega), if_pos (by omega), if_pos (by omega)];congr 1;omega
  rw [Lib.encodeRuneZ_four (by omega) (by omega)];simp only [List.map_cons, List.map_nil, List.length_cons, List.length_nil, List.getD_cons_zero, List.getD_cons_succ];rw [gF _ (by omega) (by omega), gF (128 + r / 4096 % 64) (by omega) (by omega), gF (128 + r / 64 % 64) (by omega) (by omega), gF (128 + r % 64) (by omega) (by omega)];unfold Lib.decodeN;rw [if_neg (by omega), if_neg (by omega), if_neg (by omega), if_pos (by omega), if_pos (by omega)];congr 1;omega
 exact key
theorem K2 (r : Int) : 1 ≤ (Lib.encodeRune r).length := by
 rw [← Lib.runeCells_length]; exact (Lib.runeCells_le r).1
theorem Lb (l : List UInt8) : (⟨l.toArray⟩ : ByteArray).size = l.length := by simp [ByteArray.size]
theorem He (r : Int) (h : aU r = true) : cM ⟨(Lib.encodeRune r).toArray⟩ 0 = [r] ∧ spoilt ⟨(Lib.encodeRune r).toArray⟩ 0 = 0 := by
 have hd := Df r h;have hp := K2 r;have hr := cI h;have hsz := Lb (Lib.encodeRune r);rw [fu _ _ (by omega), iY _ _ (by omega)];unfold ou;rw [hd];dsimp only;rw [dD _ _ (by omega), iL _ _ (by omega)];refine ⟨by rw [Int.toNat_of_nonneg hr.1], ?_⟩;have : (r.toNat == 65533 && (Lib.encodeRune r).length == 1) = false := by
  by_cases hc : r = 65533
  ·subst hc; decide +kernel
  have : (r.toNat == 65533) = false := (by rw [beq_eq_false_iff_ne]; omega);rw [this]; rfl
 rw [this];rfl
theorem Gl (a b : List UInt8) : (⟨(a ++ b).toArray⟩ : ByteArray) = ⟨a.toArray⟩ ++ ⟨b.toArray⟩ := by
 apply ByteArray.ext;simp
theorem Dp (l : List Int) (h : l.all aU = true) : cM ⟨(bytesOf l).toArray⟩ 0 = l ∧ spoilt ⟨(bytesOf l).toArray⟩ 0 = 0 := by
 induction l with
 | nil => rw [dD _ _ (by simp [bytesOf, ByteArray.size]), iL _ _ (by simp [bytesOf, ByteArray.size])]; exact ⟨rfl, rfl⟩
 | cons r l ih =>
  simp only [List.all_cons, Bool.and_eq_true] at h;obtain ⟨h1, h2⟩ := ih h.2;obtain ⟨h3, h4⟩ := He r h.1;have e : bytesOf (r :: l) = Lib.encodeRune r ++ bytesOf l := (by simp [bytesOf]);rw [e, Gl];obtain ⟨j1, j2⟩ := Ic ⟨(Lib.encodeRune r).toArray⟩ ⟨(bytesOf l).toArray⟩ _ 0 (Nat.le_refl _) (Nat.zero_le _) h4;rw [j1, j2, h3, h1, h2];exact ⟨rfl, rfl⟩
end Go.Proofs.YthnhbcohfoodlaaGreatDoor
namespace Go.Proofs.YthnhbcohfoodlaaGreatDoor
open Go.RowKit
def Li (w : World) (s : ByteArray) (e : Ending) (w' : World) : Prop :=
  ∃ v, e = .returned v ∧ qb w' w.heap.size v (cM s 0) ∧ Below w.heap.size w w'
def Np (w : World) (s : ByteArray) (v : Value) (wr : World) : Prop :=
  ∃ (p : Nat) (l : List Int), p ≤ s.size ∧ wr.heap[w.heap.size]? = some (.stringIter s p) ∧ qb wr (w.heap.size + 1) v l ∧ l ++ cM s p = cM s 0 ∧ l.length ≤ p ∧ Below w.heap.size w wr
theorem FN {w : World} {base k p : Nat} {e : TypeId} {sz n : Nat} {v v' : Value} {w' : World} {xs : List Value} {s : ByteArray} (hit : w.heap[k]? = some (.stringIter s p)) (hk : k < base)
    (ho : ∃ m ys, w.ownsRow base e sz v m ys) (h : bg base e sz v w n xs v' w') : w'.heap[k]? = some (.stringIter s p) := by
 obtain ⟨m, ys, ho⟩ := ho;rw [h.2.1.block k (Array.getElem?_eq_some_iff.1 hit).1 (fun e => by have := (World.ownsRow.lt ho k e.symm).1; omega)];exact hit
theorem Ch (s : ByteArray) (w : World) (hs : s.size ≤ 1099511627776) :
    Calls Tryz.prog 36 #[.string s] w (Li w s) := by
 obtain ⟨i0, hi, hz0, ko, kZ⟩ := info_parts Tryz.info21;go_enter Tryz.func36, Tryz.ntmps36;go_wp2;go_loopw [3] (Np w s) (fun _ wr => s.size - wr.iterPos w.heap.size);(case atStart => exact ⟨0, [], Nat.zero_le _, World.iter_heap _ _ _, qb.nil _ _, rfl, Nat.le_refl _, (Below.refl _ _).alloc (Nat.le_refl _) _⟩);obtain ⟨p, l, hp, hit, hown, hl, SM, oF⟩ := hrel;have hz := oF.size;have oE := iterPos_of hit;by_cases hlt : p < s.size
 ·have hnext := fun ty => Lib.run_next_any_at (P := Tryz.prog) wr w.heap.size s p ty hit hlt;have hd := fI s p hlt;have hstep := fu s p hlt;have E4 := Lib.iterAt_heap wr w.heap.size s p (p + (Utf8.decode s p).2) hit;have bt := Lib.below_iterAt oF (Nat.le_refl _) s (p + (Utf8.decode s p).2);have Hz : qb (wr.iterAt w.heap.size s (p + (Utf8.decode s p).2)) (w.heap.size + 1) _ l := ownsRow_iterAt hown (Nat.lt_succ_self _) s _;generalize wr.iterAt w.heap.size s (p + (Utf8.decode s p).2) = W1 at *;generalize hr : ((Utf8.decode s p).1 : Int) = r at *;generalize (Utf8.decode s p).2 = k at *;rw [hstep] at hl;have Y5 := bt.size;obtain ⟨A3, c3, rfl, kJ⟩ := aT Hz;have LR := Lib.hid E4;have Oj := Lib.hid oE;have HL := Lib.hid hl;have HN := Lib.hid (Rd.new W1 21 1 1 [.int .i32 r] rfl);have HO := Lib.hid (World.ownsRow.alloc Hz (.cells #[.int .i32 r] 21));clear hit E4 oE hl hown Hz hstep hr;go_wp2_with (at_builtin; refine ax _ rfl (.tmp 11) (.tmp 13) 61 rfl (w.heap.size + 1) 21 i0 _ 1 4 Tryz.underlying61 hi hz0 ko kZ rfl (by decide) _ _ _ rfl HO.out (W1.heap.size + 1) (some ⟨W1.heap.size, 0, none⟩) 1 1 [.int .i32 r] rfl HN.out ?s1 (by simp only [maxLen]; omega) (by omega) (by simp; omega) ?_);(case s1 => intro u hu; simp at hu; rw [hu]; rfl);intro v' w2 aB;have wC := FN ((Below.heap_alloc W1 (.cells #[.int .i32 r] 21) w.heap.size (Array.getElem?_eq_some_iff.1 LR.out).1).trans LR.out) (Nat.lt_succ_self _) ⟨_, _, HO.out⟩ aB;have R9 : qb w2 (w.heap.size + 1) v' (l ++ [r]) := qb.of aB (by simp) (by simp [runeCells]);have bn : Below w.heap.size w w2 := (bt.alloc (by omega) _).trans ((aB.below (by simp; omega) HO.out).mono (by omega));clear aB;have WX := iterPos_of wC;have Lk := Lib.hid wC;clear wC;have zl := Lib.hid WX;clear WX;go_wp2
  exact ⟨⟨p + k, l ++ [r], by omega, Lk.out, R9, by rw [List.append_assoc]; exact HL.out, by simp; omega, bn⟩, by rw [zl.out, Oj.out]; omega⟩
 have hnext := fun ty => Lib.run_next_end_at (P := Tryz.prog) wr w.heap.size s p ty hit hlt;rw [dD s p hlt, List.append_nil] at hl;subst hl;clear hit oE;go_wp2;go_ret;exact ⟨_, rfl, mN hown (by omega), oF⟩
end Go.Proofs.YthnhbcohfoodlaaGreatDoor
