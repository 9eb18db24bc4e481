/- Named + Right + Pass + Kinds + Near + OneLaw + RunesValid + Decode -/
import Derived.Test.YthnhbcohfoodlaaGreatDoorRows
import Derived.Test.YthnhbcohfoodlaaGreatDoorZq3
import Derived.Lib.ConvBytes
import Derived.Lib.FrozenHead
import Derived.Test.YthnhbcohfoodlaaGreatDoorZq2
import Derived.Lib.MapLaws
import Derived.Laws.Runes
set_option maxHeartbeats 1600000
set_option maxRecDepth 100000
namespace Go.Proofs.YthnhbcohfoodlaaGreatDoor
open Go.RowKit
def gY (i : Nat) (c : UInt8) : Bool := decide ((97 ≤ c.toNat ∧ c.toNat ≤ 122) ∨ c.toNat = 95 ∨ (0 < i ∧ 48 ≤ c.toNat ∧ c.toNat ≤ 57))
def cm (s : ByteArray) : Bool := decide (1 ≤ s.size ∧ s.size ≤ 20 ∧ ∀ i (h : i < s.size), gY i s[i] = true)
theorem xR {s : ByteArray} {j : Nat} (h : j < s.size) (hc : gY j s[j] = false) : cm s = false := by
 unfold cm;rw [decide_eq_false_iff_not];intro h2;rw [h2.2.2 j h] at hc;cases hc
def MO (w : World) (s : ByteArray) (i : Value) (wr : World) : Prop :=
  ∃ j : Nat, j ≤ s.size ∧ i = .int .i64 j ∧ (∀ k (h : k < s.size), k < j → gY k s[k] = true) ∧ wr = w
theorem AK {s : ByteArray} {j : Nat} (h : j < s.size) (hc : gY j s[j] = true) (hp : ∀ k (h : k < s.size), k < j → gY k s[k] = true) : ∀ k (h : k < s.size), k < j + 1 → gY k s[k] = true := by
 intro k hk hlt;by_cases e : k = j
 ·subst e; exact hc
 exact hp k hk (by omega)
theorem fW (s : ByteArray) (w : World) :
    Calls Tryz.prog 24 #[.string s] w fun e w' => e = .returned (.bool (cm s)) ∧ w = w' := by
 by_cases hs : 1 ≤ s.size ∧ s.size ≤ 20
 ·obtain ⟨hs1, zX⟩ := hs;go_enter Tryz.func24, Tryz.ntmps24;go_wp2_with fail;go_loopw [15] (MO w s) (fun i _ => s.size - (intOf i).toNat);(case atStart => exact ⟨0, Nat.zero_le _, rfl, by omega, rfl⟩);obtain ⟨j, hj, rfl, hall, rfl⟩ := hrel;by_cases hlt : j < s.size
  ·have hx : s[j].toNat < 256 := UInt8.toNat_lt s[j];cases hc : gY j s[j]
   ·have HN := Lib.hid (xR hlt hc);have dQ : s[j].toNat < 48 ∨ (57 < s[j].toNat ∧ s[j].toNat < 95) ∨ (95 < s[j].toNat ∧ s[j].toNat < 97) ∨ 122 < s[j].toNat ∨ (j = 0 ∧ 48 ≤ s[j].toNat ∧ s[j].toNat ≤ 57) := by
     simp [gY] at hc;omega
    have Pc : ((s[j].toNat : Int) != 95) = true := (by simp; omega);clear hc hall;by_cases hj0 : j = 0
    ·subst hj0;rcases (show s[0].toNat < 97 ∨ 122 < s[0].toNat by omega) with h1 | h1
     all_goals
       go_wp2_with fail
       go_ret
       rw [HN.out]
       exact ⟨rfl, rfl⟩
    have zL : ((j : Int) == 0) = false := (by simp; omega);rcases (show s[j].toNat < 48 ∨ (57 < s[j].toNat ∧ s[j].toNat < 97) ∨ 122 < s[j].toNat by omega) with h1 | ⟨h1, h2⟩ | h1
    all_goals
      go_wp2_with fail
      go_ret
      rw [HN.out]
      exact ⟨rfl, rfl⟩
   have HA := Lib.hid (AK hlt hc hall);have dQ : (97 ≤ s[j].toNat ∧ s[j].toNat ≤ 122) ∨ s[j].toNat = 95 ∨ (0 < j ∧ 48 ≤ s[j].toNat ∧ s[j].toNat ≤ 57) := by
    simpa [gY] using hc
   clear hc hall;rcases dQ with ⟨h1, h2⟩ | h1 | ⟨h1, h2, h3⟩
   ·go_wp2_with fail;exact ⟨⟨j + 1, by omega, by go_num, HA.out, rfl⟩, by simp [intOf]; omega⟩
   ·have Pc : ((s[j].toNat : Int) != 95) = false := (by simp; omega);go_wp2_with fail;exact ⟨⟨j + 1, by omega, by go_num, HA.out, rfl⟩, by simp [intOf]; omega⟩
   have Pc : ((s[j].toNat : Int) != 95) = true := (by simp; omega);have zL : ((j : Int) == 0) = false := (by simp; omega);go_wp2_with fail;exact ⟨⟨j + 1, by omega, by go_num, HA.out, rfl⟩, by simp [intOf]; omega⟩
  have hP : cm s = true := by
   unfold cm;rw [decide_eq_true_iff];exact ⟨hs1, zX, fun i h => hall i h (by omega)⟩
  have HP := Lib.hid hP;clear hall hP;go_wp2_with fail;go_ret;rw [HP.out];exact ⟨rfl, rfl⟩
 have HP := Lib.hid (show cm s = false by
  unfold cm;rw [decide_eq_false_iff_not];exact fun h => hs ⟨h.1, h.2.1⟩)
 have zX : s.size < 1 ∨ (1 ≤ s.size ∧ 20 < s.size) := (by omega);clear hs;rcases zX with h1 | ⟨h1, h2⟩
 all_goals
   go_enter Tryz.func24, Tryz.ntmps24
   go_wp2_with fail
   go_ret
   rw [HP.out]
   exact ⟨rfl, rfl⟩
def jM (r : Int) : Bool := decide ((97 ≤ r ∧ r ≤ 122) ∨ r = 95)
theorem f9 (r : Int) (w : World) :
    Calls Tryz.prog 65 #[.int .i32 r] w fun e w' => e = .returned (.bool (jM r)) ∧ w = w' := by
 go_enter Tryz.func65, Tryz.ntmps65;go_wp2;(all_goals go_ret);(all_goals refine ⟨cw ?_, rfl⟩);(all_goals (rw [Bool.eq_iff_iff]; simp [jM]; try omega))
def Ja (s : ByteArray) (W : World) (i : Value) (wr : World) : Prop :=
  ∃ j : Nat, j ≤ s.size ∧ i = .int .i64 j ∧ (∀ k (h : k < s.size), k < j → gY k s[k] = true) ∧ wr = W
theorem Bq (s : ByteArray) (j : Nat) (h : j < s.size) : s.data.toList.getD j 0 = s[j] := by
 have h' : j < s.data.toList.length := (by simpa using h);rw [List.getD_eq_getElem?_getD, List.getElem?_eq_getElem h'];simp;rfl
theorem iY (s : ByteArray) (hs : s.size ≤ 9223372036854775807) (w : World) :
    Calls Tryz.prog 25 #[.string s] w fun e w' => e = .returned (.bool (cm s)) ∧ Below w.heap.size w w' := by
 have kr := Lib.run_convert_string_bytes (P := Tryz.prog) w 9 76 5 s Tryz.underlying9 Tryz.underlying76 Tryz.underlying5;have hcell : ∀ j, (h : j < s.size) → (Lib.bytesWorld w 5 s).cell? ⟨w.heap.size, j, none⟩ = some (.int .u8 s[j].toNat) := fun j h => by
  rw [← Bq s j h];exact Lib.bytesWorld_cell w 5 s j h
 have hB : Below w.heap.size w (Lib.bytesWorld w 5 s) := Lib.below_freeze (((Below.refl _ _).drew).alloc (Nat.le_refl _) _) (p := ⟨w.heap.size, _, none⟩) (Nat.le_refl _) _;generalize Lib.bytesWorld w 5 s = W at *;generalize Go.grownCap w s.size 0 5 = C at *;have HC := Lib.hid hcell;clear hcell;go_enter Tryz.func25, Tryz.ntmps25;go_wp2_with fail;go_loopw [8] (Ja s W) (fun i _ => s.size - (intOf i).toNat);(case atStart => exact ⟨0, Nat.zero_le _, rfl, by omega, rfl⟩);obtain ⟨j, hj, rfl, hall, rfl⟩ := hrel;by_cases hlt : j < s.size
 ·have hx : s[j].toNat < 256 := UInt8.toNat_lt s[j];have d0 := HC.out j hlt;have hw1 : IntKind.i32.wrap (s[j].toNat : Int) = (s[j].toNat : Int) := IntWalk.i32_in _ (by omega);cases hc : gY j s[j]
  ·have HN := Lib.hid (xR hlt hc);have dQ : jM (s[j].toNat : Int) = false ∧ (j = 0 ∨ (0 < j ∧ s[j].toNat < 48) ∨ (0 < j ∧ 48 ≤ s[j].toNat ∧ 57 < s[j].toNat)) := by
    simp [gY] at hc;simp [jM];omega
   obtain ⟨hf, eC⟩ := dQ;clear hc hall;have hF : ∀ w, Calls Tryz.prog 65 #[.int .i32 s[j].toNat] w fun e w' => e = .returned (.bool false) ∧ w = w' := fun w => by
    have := f9 s[j].toNat w;rwa [hf] at this
   rcases eC with rfl | ⟨h1, h2⟩ | ⟨h1, h2, h3⟩
   ·go_wp2_with fail;refine (hF _).mono ?_;rintro e w' ⟨rfl, rfl⟩;go_wp2_with fail;go_ret;rw [HN.out];exact ⟨rfl, hB⟩
   all_goals
     have zL : ((j : Int) == 0) = false := by simp; omega
     go_wp2_with fail
     refine (hF _).mono ?_
     rintro e w' ⟨rfl, rfl⟩
     go_wp2_with fail
     go_ret
     rw [HN.out]
     exact ⟨rfl, hB⟩
  have HA := Lib.hid (AK hlt hc hall);have dQ : jM (s[j].toNat : Int) = true ∨ (jM (s[j].toNat : Int) = false ∧ 0 < j ∧ 48 ≤ s[j].toNat ∧ s[j].toNat ≤ 57) := by
   simp [gY] at hc;cases hf : jM (s[j].toNat : Int)
   ·right;simp [jM] at hf;exact ⟨rfl, by omega⟩
   exact .inl rfl
  clear hc hall;rcases dQ with hf | ⟨hf, h1, h2, h3⟩
  ·have hF : ∀ w, Calls Tryz.prog 65 #[.int .i32 s[j].toNat] w fun e w' => e = .returned (.bool true) ∧ w = w' := fun w => by
    have := f9 s[j].toNat w;rwa [hf] at this
   clear hf;go_wp2_with fail;refine (hF _).mono ?_;rintro e w' ⟨rfl, rfl⟩;go_wp2_with fail;exact ⟨⟨j + 1, by omega, by go_num, HA.out, rfl⟩, by simp [intOf]; omega⟩
  have hF : ∀ w, Calls Tryz.prog 65 #[.int .i32 s[j].toNat] w fun e w' => e = .returned (.bool false) ∧ w = w' := fun w => by
   have := f9 s[j].toNat w;rwa [hf] at this
  have zL : ((j : Int) == 0) = false := (by simp; omega);clear hf;go_wp2_with fail;refine (hF _).mono ?_;rintro e w' ⟨rfl, rfl⟩;go_wp2_with fail;exact ⟨⟨j + 1, by omega, by go_num, HA.out, rfl⟩, by simp [intOf]; omega⟩
 have hP : cm s = decide (0 < s.size ∧ s.size ≤ 20) := by
  unfold cm;rw [decide_eq_decide];exact ⟨fun h => ⟨by omega, h.2.1⟩, fun h => ⟨by omega, h.2, fun i hi => hall i hi (by omega)⟩⟩
 have HP := Lib.hid hP;clear hall hP;rcases (show s.size = 0 ∨ (0 < s.size ∧ s.size ≤ 20) ∨ 20 < s.size by omega) with h1 | ⟨h1, h2⟩ | h1
 ·have HF := Lib.hid (show cm s = false by rw [HP.out]; simp; omega);go_wp2_with fail;go_ret;rw [HF.out];exact ⟨rfl, hB⟩
 ·have HF := Lib.hid (show cm s = true by rw [HP.out]; simp; omega);go_wp2_with fail;go_ret;rw [HF.out];exact ⟨cw (decide_eq_true (by omega)), hB⟩
 have HF := Lib.hid (show cm s = false by rw [HP.out]; simp; omega);go_wp2_with fail;go_ret;rw [HF.out];exact ⟨cw (decide_eq_false (by omega)), hB⟩
end Go.Proofs.YthnhbcohfoodlaaGreatDoor
namespace Go.Proofs.YthnhbcohfoodlaaGreatDoor
open Go.RowKit
def bT (r : Int) : Bool := decide ((0 ≤ r ∧ r < 55296) ∨ (57343 < r ∧ r ≤ 1114111))
theorem zF (r : Int) (w : World) :
    Calls Tryz.prog 141 #[.int .i32 r] w fun e w' => e = .returned (.bool (bT r)) ∧ w = w' := by
 go_enter Tryz.func141, Tryz.ntmps141;go_wp2;(all_goals go_ret);(all_goals refine ⟨cw ?_, rfl⟩);(all_goals (rw [Bool.eq_iff_iff]; simp [bT]; try omega))
theorem iA (r : Int) (w : World) :
    Calls Tryz.prog 87 #[.int .i32 r] w fun e w' => e = .returned (.bool (bT r)) ∧ w = w' := by
 go_enter Tryz.func87, Tryz.ntmps87;go_wp2_with (go_at_call 141; refine (zF _ _).mono ?_; rintro e w' ⟨rfl, rfl⟩);go_ret;exact ⟨rfl, rfl⟩
theorem gX (r : Int) (w : World) :
    Calls Tryz.prog 131 #[.int .i32 r] w fun e w' => e = .returned (.bool (bT r)) ∧ w = w' := by
 go_enter Tryz.func131, Tryz.ntmps131;go_wp2;(all_goals go_ret);(all_goals refine ⟨cw ?_, rfl⟩);(all_goals (rw [Bool.eq_iff_iff]; simp [bT]; try omega))
end Go.Proofs.YthnhbcohfoodlaaGreatDoor
namespace Go.Proofs.YthnhbcohfoodlaaGreatDoor
open Go.RowKit
def lR : ByteArray := ⟨#[108, 111, 119, 101, 114]⟩
def pG : ByteArray := ⟨#[110, 117, 108, 108]⟩
def j8 : ByteArray := ⟨#[114, 101, 109, 111, 118, 101]⟩
def lZ : ByteArray := ⟨#[117, 112, 112, 101, 114]⟩
def mW (s : ByteArray) (l : List ByteArray) : Bool := l.any fun t => s.toList == t.toList
def gm (s : ByteArray) : Bool := mW s [lR, pG, j8, lZ]
theorem Df (s t : ByteArray) (l : List ByteArray) : mW s (t :: l) = ((s.toList == t.toList) || mW s l) := rfl
theorem EO {α : Type} {l : List α} {j : Nat} {x : α} (h : l[j]? = some x) : l.drop j = x :: l.drop (j + 1) := by
 obtain ⟨hj, rfl⟩ := List.getElem?_eq_some_iff.1 h;exact List.drop_eq_getElem_cons hj
def L4 (W : World) (s : ByteArray) (l : List ByteArray) (n : Nat) (i : Value) (wr : World) : Prop :=
  ∃ k : Nat, k ≤ n ∧ i = .int .i64 k ∧ mW s l = mW s (l.drop k) ∧ wr = W
theorem Cf (b off n c : Nat) (s : ByteArray) (l : List ByteArray) (hn : l.length = n) (hm : n ≤ 9223372036854775807) (w : World) (hl : ∀ k t, l[k]? = some t → w.cell? ⟨b, off + k, none⟩ = some (.string t)) :
    Calls Tryz.prog 146 #[.slice (some ⟨b, off, none⟩) n c, .string s] w fun e w' => (∃ z : Int, e = .returned (.int .i64 z) ∧ decide (0 ≤ z) = mW s l) ∧ w = w' := by
 have HL := Lib.hid hl;have HN := Lib.hid hn;clear hl hn;go_enter Tryz.func146, Tryz.ntmps146;go_wp2_with fail;go_loopw [8] (L4 w s l n) (fun i _ => n - (intOf i).toNat);(case atStart => exact ⟨0, Nat.zero_le _, rfl, rfl, rfl⟩);obtain ⟨k, hk, rfl, bz, rfl⟩ := hrel;by_cases hlt : k < n
 ·obtain ⟨t, ht⟩ : ∃ z, l[k]? = some z := ⟨_, List.getElem?_eq_getElem (by rw [HN.out]; exact hlt)⟩;have d0 := HL.out k t ht;rw [EO ht, Df] at bz;cases he : s.toList == t.toList
  ·rw [he, Bool.false_or] at bz;have HG := Lib.hid bz;clear bz;go_wp2_with fail;exact ⟨⟨k + 1, by omega, by go_num, HG.out, rfl⟩, by simp [intOf]; omega⟩
  rw [he, Bool.true_or] at bz;have HG := Lib.hid bz;clear bz;go_wp2_with fail;go_ret;exact ⟨⟨_, rfl, by rw [HG.out]; simp⟩, rfl⟩
 obtain rfl : k = n := (by omega);rw [List.drop_of_length_le (by rw [HN.out]; omega)] at bz;have HG := Lib.hid (bz.trans (show mW s [] = false from rfl));clear bz;go_wp2_with fail;go_ret;exact ⟨⟨_, rfl, by rw [HG.out]; simp⟩, rfl⟩
theorem Gu (b off n c : Nat) (s : ByteArray) (l : List ByteArray) (hn : l.length = n) (hm : n ≤ 9223372036854775807) (w : World) (hl : ∀ k t, l[k]? = some t → w.cell? ⟨b, off + k, none⟩ = some (.string t)) :
    Calls Tryz.prog 96 #[.slice (some ⟨b, off, none⟩) n c, .string s] w fun e w' => e = .returned (.bool (mW s l)) ∧ w = w' := by
 have H := Lib.hid (Cf b off n c s l hn hm w hl);clear hl hn;go_enter Tryz.func96, Tryz.ntmps96;go_wp2_with fail;refine H.out.mono ?_;rintro e w2 ⟨⟨z, rfl, hz⟩, rfl⟩;have HZ := Lib.hid hz;clear hz;go_wp2_with fail;go_ret;exact ⟨cw HZ.out, rfl⟩
theorem lG (w : World) :
    Calls Tryz.prog 97 #[] w fun e w' => e = .returned (.slice (some ⟨w.heap.size, 0, none⟩) 4 4) ∧ w' = w.alloc (.cells #[.string lR, .string pG, .string j8, .string lZ] 9) := by
 go_enter Tryz.func97, Tryz.ntmps97;go_wp2_with fail;go_ret;exact ⟨rfl, rfl⟩
theorem xq (b : Nat) (s : ByteArray) (v : Bool) (hv : gm s = v) (w : World) (h : aM w b 9 #[.string lR, .string pG, .string j8, .string lZ]) :
    Calls Tryz.prog 96 #[.slice (some ⟨b, 0, none⟩) 4 4, .string s] w fun e w' => e = .returned (.bool v) ∧ w = w' := by
 subst hv;refine Gu b 0 4 4 s [lR, pG, j8, lZ] rfl (by decide) w fun k t hk => ?_;rw [Nat.zero_add, h.cell];match k, hk with
 | 0, hk => cases hk; rfl
 | 1, hk => cases hk; rfl
 | 2, hk => cases hk; rfl
 | 3, hk => cases hk; rfl
theorem sn (s : ByteArray) (w : World) :
    Calls Tryz.prog 103 #[.string s] w fun e w' => e = .returned (.bool (gm s)) ∧ w = w' := by
 go_enter Tryz.func103, Tryz.ntmps103;go_wp2_with fail;(all_goals go_ret);(all_goals exact ⟨cw (by simp_all [gm, mW, lR, pG, j8, lZ] <;> simp [Bool.or_assoc]), rfl⟩)
end Go.Proofs.YthnhbcohfoodlaaGreatDoor
namespace Go.Proofs.YthnhbcohfoodlaaGreatDoor
open Go.RowKit
def gZ (w : World) (base : Nat) (v : Value) (l : List Int) : Prop := w.ownsRow base 21 1 v l.length (ax l)
theorem gZ.nil (w : World) (base : Nat) : gZ w base (.slice none 0 0) [] := World.ownsRow_nil _ _ _ _
theorem gZ.of {w w' : World} {base n : Nat} {v v' : Value} {xs : List Value} {l : List Int}
    (h : b9 base 21 1 v w n xs v' w') (hn : l.length = n) (hx : ax l = xs) : gZ w' base v' l := by
 subst hn hx;exact h.own
theorem cR (a : List Int) : ∀ u ∈ ax a, u.oneCell' = true := by
 intro u hu;simp only [ax, List.mem_map] at hu;obtain ⟨k, _, rfl⟩ := hu;rfl
theorem Tryz.info21 : (Tryz.prog.info? 21).map (fun i => (i.zero, i.size, i.bytes)) = some (some (.int .i32 0), 1, 4) := by kernel_rfl
theorem gZ.rd {w : World} {base : Nat} {A : Option Addr} {n c : Nat} {l : List Int} (h : gZ w base (.slice A n c) l) (hn : l.length = n) : Lf w w.heap.size A n l := by
 subst hn;exact Rd.fk h
def iy (l : List Int) : List Value := l.map (Value.int .i64)
def kJ (w : World) (base : Nat) (v : Value) (l : List Int) : Prop := w.ownsRow base 3 1 v l.length (iy l)
theorem kJ.nil (w : World) (base : Nat) : kJ w base (.slice none 0 0) [] := World.ownsRow_nil _ _ _ _
theorem kJ.of {w w' : World} {base n : Nat} {v v' : Value} {xs : List Value} {l : List Int}
    (h : b9 base 3 1 v w n xs v' w') (hn : l.length = n) (hx : iy l = xs) : kJ w' base v' l := by
 subst hn hx;exact h.own
theorem Tryz.info3 : (Tryz.prog.info? 3).map (fun i => (i.zero, i.size, i.bytes)) = some (some (.int .i64 0), 1, 8) := by kernel_rfl
def Lw (w : World) (B : Nat) (A : Option Addr) (n : Nat) (l : List Int) : Prop := Rd w B 1 A n (iy l)
theorem Lw.len {w : World} {B n : Nat} {A : Option Addr} {l : List Int} (h : Lw w B A n l) : l.length = n := by
 have := h.1; simp [iy] at this; omega
theorem Lw.at {w : World} {B n : Nat} {A : Option Addr} {l : List Int} (h : Lw w B A n l) {k : Nat} {x : Int} (hk : l[k]? = some x) :
    ∃ b off : Nat, A = some ⟨b, off, none⟩ ∧ b < B ∧ w.cell? ⟨b, off + k, none⟩ = some (.int .i64 x) := by
 have hl : k < l.length := (List.getElem?_eq_some_iff.1 hk).1;have := h.len;obtain ⟨b, off, e, hb, hc⟩ := h.2 (by omega);exact ⟨b, off, e, hb, hc k _ (by simp [iy, hk])⟩
theorem kJ.rd {w : World} {base : Nat} {A : Option Addr} {n c : Nat} {l : List Int} (h : kJ w base (.slice A n c) l) (hn : l.length = n) : Lw w w.heap.size A n l := by
 subst hn;exact Rd.fk h
end Go.Proofs.YthnhbcohfoodlaaGreatDoor
namespace Go.Proofs.YthnhbcohfoodlaaGreatDoor
open Go.RowKit
theorem BT {α : Type} {l : List α} {k : Nat} {p : α} (h : l[k]? = some p) : l.take (k + 1) = l.take k ++ [p] := by
 rw [List.take_add_one, h]; rfl
end Go.Proofs.YthnhbcohfoodlaaGreatDoor
namespace Go.Proofs.YthnhbcohfoodlaaGreatDoor
open Go.RowKit
def aQ (s : ByteArray) (p : Nat) : Int := ((s.get! p).toNat : Int)
theorem j6 (s : ByteArray) (p : Nat) : 0 ≤ aQ s p ∧ aQ s p < 256 := by
 unfold aQ;have := (s.get! p).toNat_lt;omega
theorem iW (s : ByteArray) (p : Nat) (h : p < s.size) : ((s[p]'h).toNat : Int) = aQ s p := by
 unfold aQ;have e := get_at s p h;rw [Nat.add_zero] at e;rw [e]
def dm (j : Nat) : Int := if j = 0 then 192 else if j = 1 then 224 else 240
def qM (j : Nat) : Int := if j = 0 then 224 else if j = 1 then 240 else 248
def jw (j : Nat) : Nat := if j = 0 then 2 else if j = 1 then 3 else 4
def sx (j : Nat) : Int := if j = 0 then 128 else if j = 1 then 2048 else 65536
def ig (j : Nat) (c : Int) : Bool := decide (dm j ≤ c) && decide (c < dm j + (if j = 0 then 32 else if j = 1 then 16 else 8))
theorem DP (j : Nat) (hj : j < 3) (c : Int) (h0 : 0 ≤ c) (h1 : c < 256) : (bits BinOp.and IntKind.i64 c (qM j) != dm j) = !ig j c := by
 have key : ∀ (j : Fin 3) (c : Fin 256), (bits BinOp.and IntKind.i64 ((c.val : Nat) : Int) (qM j.val) != dm j.val) = !ig j.val ((c.val : Nat) : Int) := (by decide +kernel);have := key ⟨j, hj⟩ ⟨c.toNat, by omega⟩;simpa [Int.toNat_of_nonneg h0] using this
def part (s : ByteArray) (p : Nat) (x0 : Int) : Nat → Int
  | 0 => x0
  | k + 1 => part s p x0 k * 64 + aQ s (p + (k + 1)) % 64
theorem Fu (s : ByteArray) (p : Nat) (x0 : Int) (h0 : 0 ≤ x0) (h1 : x0 < 32) (k : Nat) (hk : k ≤ 3) : 0 ≤ part s p x0 k ∧ part s p x0 k < 8388608 := by
 have b1 := j6 s (p + 1);have b2 := j6 s (p + 2);have b3 := j6 s (p + 3);match k, hk with
 | 0, _ => simp only [part]; omega
 | 1, _ => simp only [part]; omega
 | 2, _ => simp only [part]; omega
 | 3, _ => simp only [part]; omega
def tW (s : ByteArray) (p : Nat) : Int × Int := if qb s p then (0, 0) else (((Utf8.decode s p).1 : Int), ((Utf8.decode s p).2 : Int))
theorem oA (s : ByteArray) (p : Nat) {r k : Nat} (h : Lib.decodeN (s.size - p) (s.get! p).toNat (s.get! (p + 1)).toNat (s.get! (p + 2)).toNat (s.get! (p + 3)).toNat = (r, k)) :
    tW s p = if r = 65533 ∧ k = 1 then (0, 0) else ((r : Int), (k : Int)) := by
 unfold tW qb;rw [Lib.decode_at, h];simp
theorem CQ (s : ByteArray) (p : Nat) (hc : aQ s p < 128) : tW s p = (aQ s p, 1) := by
 unfold aQ at *;rw [oA s p (r := (s.get! p).toNat) (k := 1) (by unfold Lib.decodeN; rw [if_pos (by omega)]), if_neg (by omega)];rfl
theorem Eb (s : ByteArray) (p : Nat) (hc : 128 ≤ aQ s p) (h : ∀ j, j < 3 → ig j (aQ s p) = true → ¬ p + jw j ≤ s.size) : tW s p = (0, 0) := by
 have h0 := h 0 (by omega);have h1 := h 1 (by omega);have h2 := h 2 (by omega);simp [ig, dm, jw] at h0 h1 h2;unfold aQ at *;rw [oA s p (r := 65533) (k := 1) (by
  unfold Lib.decodeN;rw [if_neg (by omega), if_neg (by omega), if_neg (by omega), if_neg (by omega)]), if_pos (by omega)]
theorem F4 (s : ByteArray) (p j i : Nat) (hj : j < 3) (hc : ig j (aQ s p) = true) (hi : 1 ≤ i) (hin : i < jw j) (hb : aQ s (p + i) / 64 ≠ 2) : tW s p = (0, 0) := by
 have key : i = 1 ∨ i = 2 ∨ i = 3 := by
  have : jw j ≤ 4 := by
   unfold jw;split;omega;split <;> omega
  omega
 simp [ig, dm] at hc;unfold aQ at *;rw [oA s p (r := 65533) (k := 1) ?_, if_pos (by omega)];unfold Lib.decodeN;match j, hj with
 | 0, _ =>
  simp [jw] at hin hc;obtain rfl : i = 1 := (by omega);rw [if_neg (by omega), if_neg (by omega), if_neg (by omega), if_neg (by omega)]
 | 1, _ =>
  simp [jw] at hin hc;rcases key with rfl | rfl | rfl
  ·rw [if_neg (by omega), if_neg (by omega), if_neg (by omega), if_neg (by omega)]
  ·rw [if_neg (by omega), if_neg (by omega), if_neg (by omega), if_neg (by omega)]
  omega
 | 2, _ =>
  simp [jw] at hin hc;rcases key with rfl | rfl | rfl
  ·rw [if_neg (by omega), if_neg (by omega), if_neg (by omega), if_neg (by omega)]
  ·rw [if_neg (by omega), if_neg (by omega), if_neg (by omega), if_neg (by omega)]
  rw [if_neg (by omega), if_neg (by omega), if_neg (by omega), if_neg (by omega)]
theorem vV (s : ByteArray) (p X n : Nat) (least : Int) (P : Int) (hP : P = (X : Int)) (hl : 1 < n)
    (hd : Lib.decodeN (s.size - p) (s.get! p).toNat (s.get! (p + 1)).toNat (s.get! (p + 2)).toNat (s.get! (p + 3)).toNat = if least ≤ (X : Int) ∧ bT (X : Int) = true then (X, n) else (65533, 1)) :
    tW s p = if (decide (least ≤ P) && bT P) = true then (P, (n : Int)) else (0, 0) := by
 subst hP;by_cases hv : least ≤ (X : Int) ∧ bT (X : Int) = true
 ·rw [if_pos hv] at hd;rw [oA s p hd, if_neg (by omega), if_pos (by simp [hv.1, hv.2])]
 rw [if_neg hv] at hd;rw [oA s p hd, if_pos (by omega), if_neg (by simpa using hv)]
theorem B7 (s : ByteArray) (p j : Nat) (hj : j < 3) (hc : ig j (aQ s p) = true) (hsz : p + jw j ≤ s.size) (hb : ∀ i, 1 ≤ i → i < jw j → aQ s (p + i) / 64 = 2) :
    tW s p = if (decide (sx j ≤ part s p (aQ s p - dm j) (jw j - 1)) && bT (part s p (aQ s p - dm j) (jw j - 1))) = true then (part s p (aQ s p - dm j) (jw j - 1), (jw j : Int)) else (0, 0) := by
 have g0 := (s.get! p).toNat_lt;have g1 := (s.get! (p + 1)).toNat_lt;have g2 := (s.get! (p + 2)).toNat_lt;have g3 := (s.get! (p + 3)).toNat_lt;match j, hj with
 | 0, _ =>
  have h1 : aQ s (p + 1) / 64 = 2 := hb 1 (by omega) (by decide);have LJ : p + 2 ≤ s.size := hsz;have dQ : 192 ≤ aQ s p ∧ aQ s p < 224 := (by simpa [ig, dm] using hc);clear hb hc hsz;refine vV s p ((s.get! p).toNat % 32 * 64 + (s.get! (p + 1)).toNat % 64) 2 128 _ ?_ (by omega) ?_
  ·show (aQ s p - 192) * 64 + aQ s (p + 1) % 64 = _;unfold aQ at *;omega
  unfold aQ at *;unfold Lib.decodeN;rw [if_neg (by omega), if_pos (by omega)];by_cases hv : 128 ≤ (s.get! p).toNat % 32 * 64 + (s.get! (p + 1)).toNat % 64
  ·rw [if_pos (by omega), if_pos (by simp [bT]; omega)]
  rw [if_neg (by omega), if_neg (by simp [bT]; omega)]
 | 1, _ =>
  have h1 : aQ s (p + 1) / 64 = 2 := hb 1 (by omega) (by decide);have h2 : aQ s (p + 2) / 64 = 2 := hb 2 (by omega) (by decide);have LJ : p + 3 ≤ s.size := hsz;have dQ : 224 ≤ aQ s p ∧ aQ s p < 240 := (by simpa [ig, dm] using hc);clear hb hc hsz;refine vV s p ((s.get! p).toNat % 16 * 4096 + (s.get! (p + 1)).toNat % 64 * 64 + (s.get! (p + 2)).toNat % 64) 3 2048 _ ?_ (by omega) ?_
  ·show ((aQ s p - 224) * 64 + aQ s (p + 1) % 64) * 64 + aQ s (p + 2) % 64 = _;unfold aQ at *;omega
  unfold aQ at *;unfold Lib.decodeN;rw [if_neg (by omega), if_neg (by omega), if_pos (by omega)];generalize (s.get! p).toNat % 16 * 4096 + (s.get! (p + 1)).toNat % 64 * 64 + (s.get! (p + 2)).toNat % 64 = X;by_cases hv : 2048 ≤ X ∧ (X < 55296 ∨ 57344 ≤ X ∧ X ≤ 1114111)
  ·rw [if_pos (by omega), if_pos (by simp [bT]; omega)]
  rw [if_neg (by omega), if_neg (by simp [bT]; omega)]
 | 2, _ =>
  have h1 : aQ s (p + 1) / 64 = 2 := hb 1 (by omega) (by decide);have h2 : aQ s (p + 2) / 64 = 2 := hb 2 (by omega) (by decide);have h3 : aQ s (p + 3) / 64 = 2 := hb 3 (by omega) (by decide);have LJ : p + 4 ≤ s.size := hsz;have dQ : 240 ≤ aQ s p ∧ aQ s p < 248 := (by simpa [ig, dm] using hc);clear hb hc hsz;refine vV s p ((s.get! p).toNat % 8 * 262144 + (s.get! (p + 1)).toNat % 64 * 4096 + (s.get! (p + 2)).toNat % 64 * 64 + (s.get! (p + 3)).toNat % 64) 4 65536 _ ?_ (by omega) ?_
  ·show (((aQ s p - 240) * 64 + aQ s (p + 1) % 64) * 64 + aQ s (p + 2) % 64) * 64 + aQ s (p + 3) % 64 = _;unfold aQ at *;omega
  unfold aQ at *;unfold Lib.decodeN;rw [if_neg (by omega), if_neg (by omega), if_neg (by omega), if_pos (by omega)];generalize (s.get! p).toNat % 8 * 262144 + (s.get! (p + 1)).toNat % 64 * 4096 + (s.get! (p + 2)).toNat % 64 * 64 + (s.get! (p + 3)).toNat % 64 = X;by_cases hv : 65536 ≤ X ∧ (X < 55296 ∨ 57344 ≤ X ∧ X ≤ 1114111)
  ·rw [if_pos (by omega), if_pos (by simp [bT]; omega)]
  rw [if_neg (by omega), if_neg (by simp [bT]; omega)]
end Go.Proofs.YthnhbcohfoodlaaGreatDoor
namespace Go.Proofs.YthnhbcohfoodlaaGreatDoor
theorem oc (s : ByteArray) (p : Nat) : bT ((Utf8.decode s p).1 : Int) = true := by
 rw [Lib.decode_at];have key : ∀ n b0 b1 b2 b3, bT ((Lib.decodeN n b0 b1 b2 b3).1 : Int) = true := by
  intro n b0 b1 b2 b3;unfold Lib.decodeN;(repeat' split);(all_goals simp [bT]);(all_goals omega)
 exact key _ _ _ _ _
theorem tC (s : ByteArray) : ∀ (f p : Nat), s.size - p ≤ f → (cq s p).all bT = true := by
 intro f;induction f with
 | zero => intro p h; rw [jH s p (by omega)]; rfl
 | succ f ih =>
  intro p h;by_cases hp : p < s.size
  ·have hd := fj s p hp;rw [kE s p hp, List.all_cons, oc s p, ih _ (by omega)];rfl
  rw [jH s p hp]; rfl
theorem jQ (s : ByteArray) : ∀ x ∈ cq s 0, Utf8.valid x = true := by
 intro x hx;have := List.all_eq_true.1 (tC s s.size 0 (by omega)) x hx;rw [validRune_eq];unfold validRune;simpa [bT] using this
end Go.Proofs.YthnhbcohfoodlaaGreatDoor
namespace Go.Proofs.YthnhbcohfoodlaaGreatDoor
open Go.RowKit
def FD (w : World) (s : ByteArray) (e : Ending) (w' : World) : Prop :=
  ∃ v, e = .returned v ∧ gZ w' w.heap.size v (cq s 0) ∧ Below w.heap.size w w'
def Ij (w : World) (s : ByteArray) (v : Value) (wr : World) : Prop :=
  ∃ (p : Nat) (l : List Int), p ≤ s.size ∧ wr.heap[w.heap.size]? = some (.stringIter s p) ∧ gZ wr (w.heap.size + 1) v l ∧ l ++ cq s p = cq s 0 ∧ l.length ≤ p ∧ Below w.heap.size w wr
theorem BB {w : World} {base k p : Nat} {e : TypeId} {sz n : Nat} {v v' : Value} {w' : World} {xs : List Value} {s : ByteArray} (hit : w.heap[k]? = some (.stringIter s p)) (hk : k < base)
    (ho : ∃ m ys, w.ownsRow base e sz v m ys) (h : b9 base e sz v w n xs v' w') : w'.heap[k]? = some (.stringIter s p) := by
 obtain ⟨m, ys, ho⟩ := ho;rw [h.2.1.block k (Array.getElem?_eq_some_iff.1 hit).1 (fun e => by have := (World.ownsRow.lt ho k e.symm).1; omega)];exact hit
theorem zR (s : ByteArray) (w : World) (hs : s.size ≤ 1099511627776) :
    Calls Tryz.prog 36 #[.string s] w (FD w s) := by
 obtain ⟨i0, hi, ql, kR, kM⟩ := info_parts Tryz.info21;go_enter Tryz.func36, Tryz.ntmps36;go_wp2;go_loopw [3] (Ij w s) (fun _ wr => s.size - wr.iterPos w.heap.size);(case atStart => exact ⟨0, [], Nat.zero_le _, World.iter_heap _ _ _, gZ.nil _ _, rfl, Nat.le_refl _, (Below.refl _ _).alloc (Nat.le_refl _) _⟩);obtain ⟨p, l, hp, hit, hown, hl, PM, mw⟩ := hrel;have hz := mw.size;have jl := iterPos_of hit;by_cases hlt : p < s.size
 ·have hnext := fun ty => Lib.run_next_any_at (P := Tryz.prog) wr w.heap.size s p ty hit hlt;have hd := fj s p hlt;have hstep := kE s p hlt;have nJ := Lib.iterAt_heap wr w.heap.size s p (p + (Utf8.decode s p).2) hit;have aT := Lib.below_iterAt mw (Nat.le_refl _) s (p + (Utf8.decode s p).2);have p4 : gZ (wr.iterAt w.heap.size s (p + (Utf8.decode s p).2)) (w.heap.size + 1) _ l := ownsRow_iterAt hown (Nat.lt_succ_self _) s _;generalize wr.iterAt w.heap.size s (p + (Utf8.decode s p).2) = W1 at *;generalize hr : ((Utf8.decode s p).1 : Int) = r at *;generalize (Utf8.decode s p).2 = k at *;rw [hstep] at hl;have Ti := aT.size;obtain ⟨A3, c3, rfl, eC⟩ := aP p4;have AE := Lib.hid nJ;have wm := Lib.hid jl;have HL := Lib.hid hl;have HN := Lib.hid (Rd.new W1 21 1 1 [.int .i32 r] rfl);have HO := Lib.hid (World.ownsRow.alloc p4 (.cells #[.int .i32 r] 21));clear hit nJ jl hl hown p4 hstep hr;go_wp2_with (at_builtin; refine av _ rfl (.tmp 11) (.tmp 13) 61 rfl (w.heap.size + 1) 21 i0 _ 1 4 Tryz.underlying61 hi ql kR kM rfl (by decide) _ _ _ rfl HO.out (W1.heap.size + 1) (some ⟨W1.heap.size, 0, none⟩) 1 1 [.int .i32 r] rfl HN.out ?s1 (by simp only [maxLen]; omega) (by omega) (by simp; omega) ?_);(case s1 => intro u hu; simp at hu; rw [hu]; rfl);intro v' w2 an;have tG := BB ((Below.heap_alloc W1 (.cells #[.int .i32 r] 21) w.heap.size (Array.getElem?_eq_some_iff.1 AE.out).1).trans AE.out) (Nat.lt_succ_self _) ⟨_, _, HO.out⟩ an;have MX : gZ w2 (w.heap.size + 1) v' (l ++ [r]) := gZ.of an (by simp) (by simp [ax]);have aU : Below w.heap.size w w2 := (aT.alloc (by omega) _).trans ((an.below (by simp; omega) HO.out).mono (by omega));clear an;have RF := iterPos_of tG;have Gm := Lib.hid tG;clear tG;have kV := Lib.hid RF;clear RF;go_wp2
  exact ⟨⟨p + k, l ++ [r], by omega, Gm.out, MX, by rw [List.append_assoc]; exact HL.out, by simp; omega, aU⟩, by rw [kV.out, wm.out]; omega⟩
 have hnext := fun ty => Lib.run_next_end_at (P := Tryz.prog) wr w.heap.size s p ty hit hlt;rw [jH s p hlt, List.append_nil] at hl;subst hl;clear hit jl;go_wp2;go_ret;exact ⟨_, rfl, yF hown (by omega), mw⟩
end Go.Proofs.YthnhbcohfoodlaaGreatDoor
