/- Parts + Item + Items + Side + SideMore + Told -/
import Derived.Test.YthnhbcohfoodlaaGreatDoorZq4
import Derived.Test.YthnhbcohfoodlaaGreatDoorZq7
import Derived.Test.YthnhbcohfoodlaaGreatDoorZq3
import Derived.Test.YthnhbcohfoodlaaGreatDoorZq6
import Derived.Test.YthnhbcohfoodlaaGreatDoorZq8
set_option maxHeartbeats 1600000
set_option maxRecDepth 100000
namespace Go.Proofs.YthnhbcohfoodlaaGreatDoor
open Go.RowKit Go.ChangeShapes Go.WideShapes Go.ChangeAt
def gU {α : Type} (R : α → List Value → Prop) (w : World) (B sz : Nat) (A : Option Addr) (n : Nat) (l : List α) : Prop :=
  ∃ css : List (List Value), l.length = n ∧ css.length = n ∧ (∀ (i : Nat) (a : α) (cs : List Value), l[i]? = some a → css[i]? = some cs → R a cs) ∧ (∀ cs ∈ css, cs.length = sz) ∧ Rd w B sz A n css.flatten
theorem gU.len {α : Type} {R : α → List Value → Prop} {w : World} {B sz n : Nat} {A : Option Addr} {l : List α} (h : gU R w B sz A n l) : l.length = n := by
 obtain ⟨_, h1, _⟩ := h;exact h1
theorem gU.at {α : Type} {R : α → List Value → Prop} {w : World} {B sz n : Nat} {A : Option Addr} {l : List α} (h : gU R w B sz A n l) {k : Nat} {a : α} (hk : l[k]? = some a) :
    ∃ (b off : Nat) (cs : List Value), A = some ⟨b, off, none⟩ ∧ b < B ∧ R a cs ∧ ∀ j u, cs[j]? = some u → w.cell? ⟨b, off + k * sz + j, none⟩ = some u := by
 obtain ⟨css, h1, h2, h3, h4, h5, h6⟩ := h;have hlt : k < l.length := (List.getElem?_eq_some_iff.1 hk).1;obtain ⟨b, off, e, hb, hc⟩ := h6 (by omega);obtain ⟨cs, hcs⟩ : ∃ cs, css[k]? = some cs := ⟨_, List.getElem?_eq_getElem (by omega)⟩;refine ⟨b, off, cs, e, hb, h3 k a cs hk hcs, fun j u hu => ?_⟩;rw [Nat.add_assoc];exact hc _ _ (pK h4 k cs hcs j u hu)
theorem gU.weak {α : Type} {R R' : α → List Value → Prop} {w w' : World} {B B' sz n : Nat} {A : Option Addr} {l : List α} (h : gU R w B sz A n l) (hR : ∀ a cs, R a cs → R' a cs) (hw : ∀ xs, Rd w B sz A n xs → Rd w' B' sz A n xs) : gU R' w' B' sz A n l := by
 obtain ⟨css, h1, h2, h3, h4, h5⟩ := h;exact ⟨css, h1, h2, fun i a cs ha hc => hR a cs (h3 i a cs ha hc), h4, hw _ h5⟩
structure aE where
  kind : Int
  rune : Int
  set : ag
  name : ByteArray
structure bp where
  start : Bool
  fin : Bool
  before : List aE
  source : List aE
  after : List aE
  af : Int
structure aZ where
  kind : Int
  name : ByteArray
  set : ag
  dir : Int
  left : bp
  right : bp
def dU (n : Int) : Prop := -9223372036854775808 ≤ n ∧ n ≤ 9223372036854775807
def sS (w : World) (B : Nat) (a : aE) (cs : List Value) : Prop :=
  ∃ A n c, cs = [.int .i64 a.kind, .int .i32 a.rune, .slice A n c, .string a.name] ∧ kH w B A n a.set ∧ n ≤ maxLen ∧ dU a.kind ∧ a.name.size ≤ maxLen
def bK (w : World) (B : Nat) (A : Option Addr) (n : Nat) (l : List aE) : Prop := gU (sS w B) w B 4 A n l
def ou (w : World) (B : Nat) (s : bp) (cs : List Value) : Prop :=
  ∃ A1 n1 c1 A2 n2 c2 A3 n3 c3, cs = [.bool s.start, .bool s.fin, .slice A1 n1 c1, .slice A2 n2 c2, .slice A3 n3 c3, .int .i64 s.af] ∧
    bK w B A1 n1 s.before ∧ bK w B A2 n2 s.source ∧ bK w B A3 n3 s.after ∧ n1 ≤ maxLen ∧ n2 ≤ maxLen ∧ n3 ≤ maxLen ∧ dU s.af
def rF (w : World) (B : Nat) (p : aZ) (cs : List Value) : Prop :=
  ∃ A n c ls rs, cs = [.int .i64 p.kind, .string p.name, .slice A n c, .int .i64 p.dir] ++ ls ++ rs ∧ kH w B A n p.set ∧ n ≤ maxLen ∧ ou w B p.left ls ∧ ou w B p.right rs ∧ dU p.kind ∧ dU p.dir ∧ p.name.size ≤ maxLen
def Lg (w : World) (B : Nat) (A : Option Addr) (n : Nat) (l : List aZ) : Prop := gU (rF w B) w B 16 A n l
section
variable {w w' : World} {B B' : Nat}
theorem sS.weak {a : aE} {cs : List Value} (hw : ∀ A sz n xs, Rd w B sz A n xs → Rd w' B' sz A n xs) (h : sS w B a cs) : sS w' B' a cs := by
 obtain ⟨A, n, c, e, h1, h2⟩ := h;exact ⟨A, n, c, e, hw _ _ _ _ h1, h2⟩
theorem bK.weak {A : Option Addr} {n : Nat} {l : List aE} (hw : ∀ A sz n xs, Rd w B sz A n xs → Rd w' B' sz A n xs) (h : bK w B A n l) : bK w' B' A n l :=
  gU.weak h (fun _ _ => sS.weak hw) (hw _ _ _)
theorem ou.weak {s : bp} {cs : List Value} (hw : ∀ A sz n xs, Rd w B sz A n xs → Rd w' B' sz A n xs) (h : ou w B s cs) : ou w' B' s cs := by
 obtain ⟨A1, n1, c1, A2, n2, c2, A3, n3, c3, e, h1, h2, h3, h4⟩ := h;exact ⟨A1, n1, c1, A2, n2, c2, A3, n3, c3, e, bK.weak hw h1, bK.weak hw h2, bK.weak hw h3, h4⟩
theorem rF.weak {p : aZ} {cs : List Value} (hw : ∀ A sz n xs, Rd w B sz A n xs → Rd w' B' sz A n xs) (h : rF w B p cs) : rF w' B' p cs := by
 obtain ⟨A, n, c, ls, rs, e, h1, h2, h3, h4, h5⟩ := h;exact ⟨A, n, c, ls, rs, e, hw _ _ _ _ h1, h2, ou.weak hw h3, ou.weak hw h4, h5⟩
theorem Lg.weak {A : Option Addr} {n : Nat} {l : List aZ} (hw : ∀ A sz n xs, Rd w B sz A n xs → Rd w' B' sz A n xs) (h : Lg w B A n l) : Lg w' B' A n l :=
  gU.weak h (fun _ _ => rF.weak hw) (hw _ _ _)
theorem vg (hb : Below B w w') (hB : B ≤ B') : ∀ A sz n xs, Rd w B sz A n xs → Rd w' B' sz A n xs := fun _ _ _ _ h => Rd.more (Rd.below h hb) hB
end
end Go.Proofs.YthnhbcohfoodlaaGreatDoor
namespace Go.Proofs.YthnhbcohfoodlaaGreatDoor
open Go.RowKit
def lB (a : aE) : Int :=
  if a.kind = 1 then (if bT a.rune = true then 0 else 3) else if a.kind = 2 then cU a.set else if a.kind = 3 then (if cm a.name = true then 0 else 7) else 1
def uL (a : aE) (A : Option Addr) (n c : Nat) : Value := .agg #[.int .i64 a.kind, .int .i32 a.rune, .slice A n c, .string a.name]
theorem kg {w : World} {A : Option Addr} {n : Nat} {l : ag} (h : kH w w.heap.size A n l) (o : Obj) : kH (w.alloc o) (w.alloc o).heap.size A n l :=
  vg ((Below.refl _ _).alloc (Nat.le_refl _) o) (by simp) _ _ _ _ h
theorem vc (a : aE) (A : Option Addr) (n c : Nat) (w : World) (hn : n ≤ 9223372036854775807) (hs : kH w w.heap.size A n a.set) :
    Calls Tryz.prog 157 #[uL a A n c] w fun e w' => e = .returned (.int .i64 (lB a)) ∧ Below w.heap.size w w' := by
 obtain ⟨kind, rune, set, name⟩ := a;have AT : ∀ o, Below w.heap.size w (w.alloc o) := fun o => (Below.refl _ _).alloc (Nat.le_refl _) o;have HS := Lib.hid (kg hs);have HB := Lib.hid AT;clear hs AT;unfold uL lB;dsimp only;by_cases h1 : kind = 1
 ·subst h1;rw [if_pos rfl];cases hr : bT rune
  all_goals
    go_enter Tryz.func157, Tryz.ntmps157
    go_wp2_with (go_at_call 87; refine (iA _ _).mono ?_; rintro e w' ⟨rfl, rfl⟩; rw [hr])
    go_ret
    exact ⟨rfl, HB.out _⟩
 by_cases h2 : kind = 2
 ·subst h2;rw [if_neg h1, if_pos rfl];go_enter Tryz.func157, Tryz.ntmps157;go_wp2_with fail;refine (kC A n c set _ hn (HS.out _)).mono ?_;rintro e w' ⟨rfl, hb⟩;go_wp2_with fail;go_ret;exact ⟨rfl, (HB.out _).trans (hb.mono (by simp))⟩
 have e1 : (kind == 1) = false := (by simpa using h1);have e2 : (kind == 2) = false := (by simpa using h2);by_cases h3 : kind = 3
 ·subst h3;rw [if_neg h1, if_neg h2, if_pos rfl];cases hr : cm name
  all_goals
    go_enter Tryz.func157, Tryz.ntmps157
    go_wp2_with (go_at_call 24; refine (fW _ _).mono ?_; rintro e w' ⟨rfl, rfl⟩; rw [hr])
    go_ret
    exact ⟨rfl, HB.out _⟩
 have e3 : (kind == 3) = false := (by simpa using h3);rw [if_neg h1, if_neg h2, if_neg h3];clear h1 h2 h3;go_enter Tryz.func157, Tryz.ntmps157;go_wp2_with fail;go_ret;exact ⟨rfl, HB.out _⟩
theorem De (a : aE) (A : Option Addr) (n c : Nat) (w : World) (hn : n ≤ 9223372036854775807) (hm : a.name.size ≤ 9223372036854775807) (hs : kH w w.heap.size A n a.set) :
    Calls Tryz.prog 196 #[uL a A n c] w fun e w' => e = .returned (.int .i64 (lB a)) ∧ Below w.heap.size w w' := by
 obtain ⟨kind, rune, set, name⟩ := a;have AT : ∀ o, Below w.heap.size w (w.alloc o) := fun o => (Below.refl _ _).alloc (Nat.le_refl _) o;have HS := Lib.hid (kg hs);have HB := Lib.hid AT;clear hs AT;unfold uL lB;dsimp only at hm ⊢;by_cases h1 : kind = 1
 ·subst h1;rw [if_pos rfl];cases hr : bT rune
  all_goals
    go_enter Tryz.func196, Tryz.ntmps196
    go_wp2_with (go_at_call 131; refine (gX _ _).mono ?_; rintro e w' ⟨rfl, rfl⟩; rw [hr])
    go_ret
    exact ⟨rfl, HB.out _⟩
 have e1 : (kind == 1) = false := (by simpa using h1);by_cases h2 : kind = 2
 ·subst h2;rw [if_neg h1, if_pos rfl];go_enter Tryz.func196, Tryz.ntmps196;go_wp2_with fail;refine (kA A n c set _ hn (HS.out _)).mono ?_;rintro e w' ⟨rfl, hb⟩;go_wp2_with fail;go_ret;exact ⟨rfl, (HB.out _).trans (hb.mono (by simp))⟩
 have e2 : (kind == 2) = false := (by simpa using h2);by_cases h3 : kind = 3
 ·subst h3;rw [if_neg h1, if_neg h2, if_pos rfl];cases hr : cm name
  all_goals
    go_enter Tryz.func196, Tryz.ntmps196
    go_wp2_with fail
    refine (iY name hm _).mono ?_
    rintro e w' ⟨rfl, hb⟩
    rw [hr]
    have eG := (HB.out _).trans (hb.mono (by simp))
    have e0 : w'.cell? ⟨w.heap.size, 0, none⟩ = some (.int .i64 3) := (aM.below (aM.new w 114 #[.int .i64 3, .int .i32 rune, .slice A n c, .string name]) hb (by simp)).cell 0
    have wS := Lib.hid eG
    clear eG hb hr
    go_wp2_with fail
    go_ret
    exact ⟨rfl, wS.out⟩
 have e3 : (kind == 3) = false := (by simpa using h3);rw [if_neg h1, if_neg h2, if_neg h3];rcases (show kind < 1 ∨ 3 < kind by omega) with h4 | h4
 all_goals
   clear h1 h2 h3
   go_enter Tryz.func196, Tryz.ntmps196
   go_wp2_with fail
   go_ret
   exact ⟨rfl, HB.out _⟩
end Go.Proofs.YthnhbcohfoodlaaGreatDoor
namespace Go.Proofs.YthnhbcohfoodlaaGreatDoor
open Go.RowKit
def ia : List aE → Int
  | [] => 0
  | a :: r => if lB a = 0 then ia r else lB a
def cz (l : List aE) : Int := if 20 < l.length then 5 else ia l
theorem qL {w : World} {B n : Nat} {A : Option Addr} {l : List aE} (h : bK w B A n l) {k : Nat} {a : aE} (hk : l[k]? = some a) :
    ∃ (b off : Nat) (A' : Option Addr) (n' c' : Nat), A = some ⟨b, off, none⟩ ∧ b < B ∧ w.cell? ⟨b, off + k * 4, none⟩ = some (.int .i64 a.kind) ∧ w.cell? ⟨b, off + k * 4 + 1, none⟩ = some (.int .i32 a.rune) ∧
      w.cell? ⟨b, off + k * 4 + 2, none⟩ = some (.slice A' n' c') ∧ w.cell? ⟨b, off + k * 4 + 3, none⟩ = some (.string a.name) ∧ kH w B A' n' a.set ∧ n' ≤ maxLen ∧ dU a.kind ∧ a.name.size ≤ maxLen := by
 obtain ⟨b, off, cs, e, hb, ⟨A', n', c', hcs, h1, h2, h3, h4⟩, hc⟩ := gU.at h hk;subst hcs;exact ⟨b, off, A', n', c', e, hb, hc 0 _ rfl, hc 1 _ rfl, hc 2 _ rfl, hc 3 _ rfl, h1, h2, h3, h4⟩
def GG (W : World) (l : List aE) (n : Nat) (i : Value) (wr : World) : Prop :=
  ∃ k : Nat, k ≤ n ∧ i = .int .i64 k ∧ ia l = ia (l.drop k) ∧ Below W.heap.size W wr
theorem pF (A : Option Addr) (n c : Nat) (l : List aE) (w : World) (hn : n ≤ maxLen) (hl : bK w w.heap.size A n l) :
    Calls Tryz.prog 180 #[.slice A n c] w fun e w' => e = .returned (.int .i64 (cz l)) ∧ Below w.heap.size w w' := by
 have cn := Lib.hid (gU.len hl);have HL := Lib.hid hl;have hn2 : n ≤ 9223372036854775807 := (by unfold maxLen at hn; omega);clear hl hn;by_cases qq : 20 < n
 ·have HP := Lib.hid (show cz l = 5 by unfold cz; rw [if_pos (by rw [cn.out]; exact qq)]);go_enter Tryz.func180, Tryz.ntmps180;go_wp2_with fail;go_ret;rw [HP.out];exact ⟨rfl, Below.refl _ _⟩
 have HP := Lib.hid (show cz l = ia l by unfold cz; rw [if_neg (by rw [cn.out]; exact qq)]);go_enter Tryz.func180, Tryz.ntmps180;go_wp2_with fail;go_loopw [11] (GG w l n) (fun i _ => n - (intOf i).toNat);(case atStart => exact ⟨0, Nat.zero_le _, rfl, rfl, Below.refl _ _⟩);obtain ⟨k, hk, rfl, bz, hb⟩ := hrel;have hz := hb.size;by_cases hlt : k < n
 ·obtain ⟨a, ha⟩ : ∃ z, l[k]? = some z := ⟨_, List.getElem?_eq_getElem (by rw [cn.out]; exact hlt)⟩;rw [gE ha, ia] at bz;obtain ⟨b, off, A', n', c', rfl, eG, c0, c1, c2, c3, Dj, hn', _, hnm⟩ := qL HL.out ha;have d0 := (hb.cell (p := ⟨b, off + k * 4, none⟩) eG).trans c0;have d1 := (hb.cell (p := ⟨b, off + k * 4 + 1, none⟩) eG).trans c1;have d2 := (hb.cell (p := ⟨b, off + k * 4 + 2, none⟩) eG).trans c2;have d3 := (hb.cell (p := ⟨b, off + k * 4 + 3, none⟩) eG).trans c3;have aT := fun o => hb.alloc hz o;have HI := Lib.hid (fun o => De a A' n' c' (wr.alloc o) (by unfold maxLen at hn'; omega) (by unfold maxLen at hnm; omega) (Rd.more (Rd.below Dj (aT o)) (by simp; omega)));have b8 := Lib.hid aT;clear c0 c1 c2 c3 Dj aT hnm hn';unfold uL at HI;by_cases hi : lB a = 0
  ·rw [if_pos hi] at bz;have HG := Lib.hid bz;clear bz;go_wp2_with fail;refine (HI.out _).mono ?_;rintro e w2 ⟨rfl, aU⟩;rw [hi];have bN := (b8.out _).trans (aU.mono (by simp; omega));have bV := Lib.hid bN;clear aU bN;go_wp2_with fail;exact ⟨⟨k + 1, by omega, by go_num, HG.out, bV.out⟩, by simp [intOf]; omega⟩
  rw [if_neg hi] at bz;have HG := Lib.hid bz;have hi2 : (lB a != 0) = true := (by simpa using hi);clear bz hi;go_wp2_with fail;refine (HI.out _).mono ?_;rintro e w2 ⟨rfl, aU⟩;have bN := (b8.out _).trans (aU.mono (by simp; omega));have bV := Lib.hid bN;clear aU bN;go_wp2_with fail;go_ret;rw [HP.out, HG.out];exact ⟨rfl, bV.out⟩
 obtain rfl : k = n := (by omega);rw [List.drop_of_length_le (by rw [cn.out]; omega)] at bz;have HG := Lib.hid (bz.trans (show ia [] = 0 from rfl));clear bz;go_wp2_with fail;go_ret;rw [HP.out, HG.out];exact ⟨rfl, hb⟩
end Go.Proofs.YthnhbcohfoodlaaGreatDoor
namespace Go.Proofs.YthnhbcohfoodlaaGreatDoor
open Go.RowKit
def eW : List (List aE) → Int
  | [] => 0
  | l :: r => if cz l = 0 then eW r else cz l
def aW (s : bp) (cW : Bool) : Int :=
  if eW [s.before, s.source, s.after] = 0 then
    (if s.af < -1 ∨ (s.source.length : Int) < s.af then 3 else if cW = true ∧ s.source.length = 0 then 6 else 0)
  else eW [s.before, s.source, s.after]
def cT (l : List aE) : Bool := l.all fun a => a.kind == 1
def fZ (s : bp) : Bool := s.start || s.fin || decide (0 < s.before.length) || decide (0 < s.after.length)
theorem jD {l : List aE} (h : cz l = 0) : l.length ≤ 20 := by
 unfold cz at h;by_cases h1 : 20 < l.length
 ·rw [if_pos h1] at h; cases h
 omega
theorem sN {w : World} {A : Option Addr} {n : Nat} {l : List aE} (h : bK w w.heap.size A n l) (o : Obj) : bK (w.alloc o) (w.alloc o).heap.size A n l :=
  bK.weak (vg ((Below.refl _ _).alloc (Nat.le_refl _) o) (by simp)) h
theorem aB {w w' : World} {A : Option Addr} {n : Nat} {l : List aE} (h : bK w w.heap.size A n l) (hb : Below w.heap.size w w') : bK w' w'.heap.size A n l :=
  bK.weak (vg hb hb.size) h
theorem jW (s : bp) (cW : Bool) (A1 A2 A3 : Option Addr) (n1 n2 n3 c1 c2 c3 : Nat) (w : World) (h1 : bK w w.heap.size A1 n1 s.before) (h2 : bK w w.heap.size A2 n2 s.source) (h3 : bK w w.heap.size A3 n3 s.after) (m1 : n1 ≤ maxLen) (m2 : n2 ≤ maxLen) (m3 : n3 ≤ maxLen) (jv : dU s.af) :
    Calls Tryz.prog 149 #[.agg #[.bool s.start, .bool s.fin, .slice A1 n1 c1, .slice A2 n2 c2, .slice A3 n3 c3, .int .i64 s.af], .bool cW] w fun e w' => e = .returned (.int .i64 (aW s cW)) ∧ Below w.heap.size w w' := by
 obtain ⟨start, fin, before, source, after, af⟩ := s;dsimp only at h1 h2 h3 jv ⊢;have o7 := gU.len h2;unfold maxLen at m2;obtain ⟨Rl, RD⟩ := jv;generalize hS : aW ⟨start, fin, before, source, after, af⟩ cW = V;unfold aW at hS;simp only [eW] at hS;generalize hcs : (#[.bool start, .bool fin, .slice A1 n1 c1, .slice A2 n2 c2, .slice A3 n3 c3, .int .i64 af] : Array Value) = cs;have ij := aM.new w 96 cs;have AT : Below w.heap.size w (w.alloc (.cells cs 96)) := (Below.refl _ _).alloc (Nat.le_refl _) _;have hsz : w.heap.size ≤ (w.alloc (.cells cs 96)).heap.size := AT.size;have H1 := Lib.hid (pF A1 n1 c1 before _ m1 (sN h1 (.cells cs 96)));have HB := Lib.hid AT;have HK := Lib.hid ij;have To := Lib.hid hsz;have R2 := Lib.hid (fun w' (hb : Below w.heap.size w w') => pF A2 n2 c2 source w' (by unfold maxLen; omega) (aB h2 hb));have R3 := Lib.hid (fun w' (hb : Below w.heap.size w w') => pF A3 n3 c3 after w' m3 (aB h3 hb));have HS := Lib.hid hS;clear h1 h2 h3 AT ij hS hsz;subst hcs;go_enter Tryz.func149, Tryz.ntmps149;go_wp2_with fail;refine H1.out.mono ?_;rintro e w1 ⟨rfl, aT⟩;have mT := aM.below HK.out aT (by simp);have xE := HB.out.trans (aT.mono To.out);have FX := Lib.hid xE;have rI : w1.cell? ⟨w.heap.size, 3, none⟩ = some (.slice A2 n2 c2) := mT.cell 3;have xu := Lib.hid mT;clear aT mT H1 HK xE;by_cases e1 : cz before = 0
 ·have Cs : (cz before != 0) = false := (by simpa using e1);go_wp2_with fail;refine (R2.out w1 FX.out).mono ?_;rintro e w2 ⟨rfl, aU⟩;have hk2 := aM.below xu.out aU xu.out.lt;have LU := FX.out.trans (aU.mono FX.out.size);have FR := Lib.hid LU;have Uo : w2.cell? ⟨w.heap.size, 4, none⟩ = some (.slice A3 n3 c3) := hk2.cell 4;have wN := Lib.hid hk2;clear aU hk2 LU rI;by_cases e2 : cz source = 0
  ·have Bh : (cz source != 0) = false := (by simpa using e2);go_wp2_with fail;refine (R3.out w2 FR.out).mono ?_;rintro e w3 ⟨rfl, bN⟩;have G2 := aM.below wN.out bN wN.out.lt;have Nl := FR.out.trans (bN.mono FR.out.size);have Ba := Lib.hid Nl;have U6 : w3.cell? ⟨w.heap.size, 3, none⟩ = some (.slice A2 n2 c2) := G2.cell 3;have Vh : w3.cell? ⟨w.heap.size, 5, none⟩ = some (.int .i64 af) := G2.cell 5;clear bN G2 Nl Uo;by_cases e3 : cz after = 0
   ·have Tn : (cz after != 0) = false := (by simpa using e3);by_cases hc : af < -1 ∨ (source.length : Int) < af
    ·have HV := Lib.hid (show V = 3 by rw [← HS.out]; simp [e1, e2, e3, hc]);rw [o7] at hc;clear e1 e2 e3;rcases (show af = 9223372036854775807 ∨ af < -1 ∨ (-1 ≤ af ∧ af < 9223372036854775807 ∧ (n2 : Int) < af) by omega) with rfl | h | ⟨h, h', h''⟩
     ·have hw : wrap64 9223372036854775808 = -9223372036854775808 := (by decide +kernel);clear hc;go_wp2_with fail;go_ret;rw [HV.out];exact ⟨rfl, Ba.out⟩
     all_goals
       clear hc
       go_wp2_with fail
       go_ret
       rw [HV.out]
       exact ⟨rfl, Ba.out⟩
    rw [o7] at hc;have Q1 : n2 ≤ 20 := (by rw [← o7]; exact jD e2);have dh : -1 ≤ af := (by omega);have dQ : af ≤ n2 := (by omega);cases hmust : cW
    ·have HV := Lib.hid (show V = 0 by rw [← HS.out, hmust, o7]; simp [e1, e2, e3]; omega);clear hc e1 e2 e3;go_wp2_with fail;go_ret;rw [HV.out];exact ⟨rfl, Ba.out⟩
    by_cases h0 : n2 = 0
    ·have HV := Lib.hid (show V = 6 by rw [← HS.out, hmust, o7, h0]; simp [e1, e2, e3]; omega);clear hc e1 e2 e3;have hz : ((n2 : Int) == 0) = true := (by simp; omega);go_wp2_with fail;go_ret;rw [HV.out];exact ⟨rfl, Ba.out⟩
    have HV := Lib.hid (show V = 0 by rw [← HS.out, hmust, o7]; simp [e1, e2, e3, h0]; omega);clear hc e1 e2 e3;have hz : ((n2 : Int) == 0) = false := (by simp; omega);go_wp2_with fail;go_ret;rw [HV.out];exact ⟨rfl, Ba.out⟩
   have HV := Lib.hid (show V = cz after by rw [← HS.out]; simp [e1, e2, e3]);have Tn : (cz after != 0) = true := (by simpa using e3);clear e1 e2 e3;go_wp2_with fail;go_ret;rw [HV.out];exact ⟨rfl, Ba.out⟩
  have HV := Lib.hid (show V = cz source by rw [← HS.out]; simp [e1, e2]);have Bh : (cz source != 0) = true := (by simpa using e2);clear e1 e2;go_wp2_with fail;go_ret;rw [HV.out];exact ⟨rfl, FR.out⟩
 have HV := Lib.hid (show V = cz before by rw [← HS.out]; simp [e1]);have Cs : (cz before != 0) = true := (by simpa using e1);clear e1;go_wp2_with fail;go_ret;rw [HV.out];exact ⟨rfl, FX.out⟩
end Go.Proofs.YthnhbcohfoodlaaGreatDoor
namespace Go.Proofs.YthnhbcohfoodlaaGreatDoor
open Go.RowKit
theorem so (a : aE) (l : List aE) : cT (a :: l) = ((a.kind == 1) && cT l) := rfl
def GU (W : World) (l : List aE) (n : Nat) (i : Value) (wr : World) : Prop :=
  ∃ k : Nat, k ≤ n ∧ i = .int .i64 k ∧ cT l = cT (l.drop k) ∧ Below W.heap.size W wr
theorem iX (s : bp) (A1 A2 A3 : Option Addr) (n1 n2 n3 c1 c2 c3 : Nat) (w : World) (h2 : bK w w.heap.size A2 n2 s.source) (m2 : n2 ≤ maxLen) :
    Calls Tryz.prog 150 #[.agg #[.bool s.start, .bool s.fin, .slice A1 n1 c1, .slice A2 n2 c2, .slice A3 n3 c3, .int .i64 s.af]] w fun e w' => e = .returned (.bool (cT s.source)) ∧ Below w.heap.size w w' := by
 obtain ⟨start, fin, before, l, after, af⟩ := s;dsimp only at h2 ⊢;have cn := Lib.hid (gU.len h2);have HL := Lib.hid h2;have hn2 : n2 ≤ 9223372036854775807 := (by unfold maxLen at m2; omega);clear h2 m2;go_enter Tryz.func150, Tryz.ntmps150;go_wp2_with fail;go_loopw [8] (GU w l n2) (fun i _ => n2 - (intOf i).toNat);(case atStart => exact ⟨0, Nat.zero_le _, rfl, rfl, (Below.refl _ _).alloc (Nat.le_refl _) _⟩);obtain ⟨k, hk, rfl, bz, hb⟩ := hrel;have hz := hb.size;by_cases hlt : k < n2
 ·obtain ⟨a, ha⟩ : ∃ z, l[k]? = some z := ⟨_, List.getElem?_eq_getElem (by rw [cn.out]; exact hlt)⟩;rw [gE ha, so] at bz;obtain ⟨b, off, A', n', c', rfl, eG, c0, Ix, MN, L9, _, _, _, _⟩ := qL HL.out ha;have d0 := (hb.cell (p := ⟨b, off + k * 4, none⟩) eG).trans c0;have d1 := (hb.cell (p := ⟨b, off + k * 4 + 1, none⟩) eG).trans Ix;have d2 := (hb.cell (p := ⟨b, off + k * 4 + 2, none⟩) eG).trans MN;have d3 := (hb.cell (p := ⟨b, off + k * 4 + 3, none⟩) eG).trans L9;have b8 := Lib.hid (fun o => hb.alloc hz o);clear c0 Ix MN L9;by_cases mT : a.kind = 1
  ·rw [mT] at bz d0;have HG := Lib.hid (bz.trans (show ((1 : Int) == 1 && cT (l.drop (k + 1))) = cT (l.drop (k + 1)) by simp));clear bz mT;go_wp2_with fail;exact ⟨⟨k + 1, by omega, by go_num, HG.out, b8.out _⟩, by simp [intOf]; omega⟩
  have HG := Lib.hid (bz.trans (show (a.kind == 1 && cT (l.drop (k + 1))) = false by simp [mT]));have hk2 : (a.kind != 1) = true := (by simpa using mT);clear bz mT;go_wp2_with fail;go_ret;rw [HG.out];exact ⟨rfl, b8.out _⟩
 obtain rfl : k = n2 := (by omega);rw [List.drop_of_length_le (by rw [cn.out]; omega)] at bz;have HG := Lib.hid (bz.trans (show cT [] = true from rfl));clear bz;go_wp2_with fail;go_ret;rw [HG.out];exact ⟨rfl, hb⟩
theorem gW (s : bp) (A1 A2 A3 : Option Addr) (n1 n2 n3 c1 c2 c3 : Nat) (w : World) (h1 : s.before.length = n1) (h3 : s.after.length = n3) :
    Calls Tryz.prog 151 #[.agg #[.bool s.start, .bool s.fin, .slice A1 n1 c1, .slice A2 n2 c2, .slice A3 n3 c3, .int .i64 s.af]] w fun e w' => e = .returned (.bool (fZ s)) ∧ Below w.heap.size w w' := by
 have hv : fZ s = (s.start || s.fin || decide (0 < n1) || decide (0 < n3)) := (by unfold fZ; rw [h1, h3]);rw [hv];clear hv h1 h3;obtain ⟨start, fin, before, l, after, af⟩ := s;dsimp only;cases start <;> cases fin
 ·by_cases F6 : 0 < n1
  ·go_enter Tryz.func151, Tryz.ntmps151;go_wp2_with fail;go_ret;exact ⟨cw (by simp; omega), (Below.refl _ _).alloc (Nat.le_refl _) _⟩
  go_enter Tryz.func151, Tryz.ntmps151;go_wp2_with fail;go_ret;exact ⟨cw (by simp; omega), (Below.refl _ _).alloc (Nat.le_refl _) _⟩
 all_goals
   go_enter Tryz.func151, Tryz.ntmps151
   go_wp2_with fail
   go_ret
   exact ⟨cw (by simp), (Below.refl _ _).alloc (Nat.le_refl _) _⟩
theorem fN (s : bp) (A1 A2 A3 : Option Addr) (n1 n2 n3 c1 c2 c3 : Nat) (w : World) (h1 : s.before.length = n1) (h3 : s.after.length = n3) (m1 : n1 ≤ 20) (m3 : n3 ≤ 20) :
    Calls Tryz.prog 120 #[.agg #[.bool s.start, .bool s.fin, .slice A1 n1 c1, .slice A2 n2 c2, .slice A3 n3 c3, .int .i64 s.af]] w fun e w' => e = .returned (.bool (!fZ s)) ∧ Below w.heap.size w w' := by
 have hv : fZ s = (s.start || s.fin || decide (0 < n1) || decide (0 < n3)) := (by unfold fZ; rw [h1, h3]);rw [hv];clear hv h1 h3;obtain ⟨start, fin, before, l, after, af⟩ := s;dsimp only;cases start <;> cases fin
 ·go_enter Tryz.func120, Tryz.ntmps120;go_wp2_with fail;go_ret;exact ⟨cw (by rw [Bool.eq_iff_iff]; simp; omega), (Below.refl _ _).alloc (Nat.le_refl _) _⟩
 all_goals
   go_enter Tryz.func120, Tryz.ntmps120
   go_wp2_with fail
   go_ret
   exact ⟨cw (by simp), (Below.refl _ _).alloc (Nat.le_refl _) _⟩
theorem Dy (a : aE) (A : Option Addr) (n c : Nat) (w : World) :
    Calls Tryz.prog 159 #[.agg #[.int .i64 a.kind, .int .i32 a.rune, .slice A n c, .string a.name]] w fun e w' => e = .returned (.bool (a.kind != 1)) ∧ Below w.heap.size w w' := by
 go_enter Tryz.func159, Tryz.ntmps159;go_wp2_with fail;go_ret;exact ⟨rfl, (Below.refl _ _).alloc (Nat.le_refl _) _⟩
end Go.Proofs.YthnhbcohfoodlaaGreatDoor
namespace Go.Proofs.YthnhbcohfoodlaaGreatDoor
open Go.RowKit
theorem zU (A : Option Addr) (n c : Nat) (l : List aE) (fv : Value) (Ok : fv = .func (.func 159) #[] #[]) (w : World) (hl : bK w w.heap.size A n l) (m : n ≤ maxLen) :
    Calls Tryz.prog 185 #[.slice A n c, fv] w fun e w' => (∃ z : Int, e = .returned (.int .i64 z) ∧ (decide (0 ≤ z) = !cT l)) ∧ Below w.heap.size w w' := by
 subst Ok;have cn := Lib.hid (gU.len hl);have HL := Lib.hid hl;have hn2 : n ≤ 9223372036854775807 := (by unfold maxLen at m; omega);clear hl m;go_enter Tryz.func185, Tryz.ntmps185;go_wp2_with fail;go_loopw [8] (GU w l n) (fun i _ => n - (intOf i).toNat);(case atStart => exact ⟨0, Nat.zero_le _, rfl, rfl, Below.refl _ _⟩);obtain ⟨k, hk, rfl, bz, hb⟩ := hrel;have hz := hb.size;by_cases hlt : k < n
 ·obtain ⟨a, ha⟩ : ∃ z, l[k]? = some z := ⟨_, List.getElem?_eq_getElem (by rw [cn.out]; exact hlt)⟩;rw [gE ha, so] at bz;obtain ⟨b, off, A', n', c', rfl, eG, c0, Ix, MN, L9, _, _, _, _⟩ := qL HL.out ha;have d0 := (hb.cell (p := ⟨b, off + k * 4, none⟩) eG).trans c0;have d1 := (hb.cell (p := ⟨b, off + k * 4 + 1, none⟩) eG).trans Ix;have d2 := (hb.cell (p := ⟨b, off + k * 4 + 2, none⟩) eG).trans MN;have d3 := (hb.cell (p := ⟨b, off + k * 4 + 3, none⟩) eG).trans L9;have HT := Lib.hid (Dy a A' n' c' wr);clear c0 Ix MN L9;by_cases mT : a.kind = 1
  ·have HG := Lib.hid (bz.trans (show (a.kind == 1 && cT (l.drop (k + 1))) = cT (l.drop (k + 1)) by simp [mT]));have hk2 : (a.kind != 1) = false := (by simpa using mT);clear bz mT;go_wp2_with fail;refine HT.out.mono ?_;rintro e w2 ⟨rfl, aU⟩;have bN := hb.trans (aU.mono hz);rw [hk2];clear aU;go_wp2_with fail;exact ⟨⟨k + 1, by omega, by go_num, HG.out, bN⟩, by simp [intOf]; omega⟩
  have HG := Lib.hid (bz.trans (show (a.kind == 1 && cT (l.drop (k + 1))) = false by simp [mT]));have hk2 : (a.kind != 1) = true := (by simpa using mT);clear bz mT;go_wp2_with fail;refine HT.out.mono ?_;rintro e w2 ⟨rfl, aU⟩;have bN := hb.trans (aU.mono hz);rw [hk2];clear aU;go_wp2_with fail;go_ret;exact ⟨⟨_, rfl, by rw [HG.out]; simp⟩, bN⟩
 obtain rfl : k = n := (by omega);rw [List.drop_of_length_le (by rw [cn.out]; omega)] at bz;have HG := Lib.hid (bz.trans (show cT [] = true from rfl));clear bz;go_wp2_with fail;go_ret;exact ⟨⟨_, rfl, by rw [HG.out]; simp⟩, hb⟩
theorem EB (A : Option Addr) (n c : Nat) (l : List aE) (fv : Value) (Ok : fv = .func (.func 159) #[] #[]) (w : World) (hl : bK w w.heap.size A n l) (m : n ≤ maxLen) :
    Calls Tryz.prog 158 #[.slice A n c, fv] w fun e w' => e = .returned (.bool (!cT l)) ∧ Below w.heap.size w w' := by
 have H := Lib.hid (zU A n c l fv Ok w hl m);clear hl m Ok;go_enter Tryz.func158, Tryz.ntmps158;go_wp2_with fail;refine H.out.mono ?_;rintro e w2 ⟨⟨z, rfl, hz⟩, hb⟩;have HZ := Lib.hid hz;clear hz;go_wp2_with fail;go_ret;exact ⟨cw HZ.out, hb⟩
theorem fQ (s : bp) (A1 A2 A3 : Option Addr) (n1 n2 n3 c1 c2 c3 : Nat) (w : World) (h2 : bK w w.heap.size A2 n2 s.source) (m2 : n2 ≤ maxLen) :
    Calls Tryz.prog 119 #[.agg #[.bool s.start, .bool s.fin, .slice A1 n1 c1, .slice A2 n2 c2, .slice A3 n3 c3, .int .i64 s.af]] w fun e w' => e = .returned (.bool (cT s.source)) ∧ Below w.heap.size w w' := by
 obtain ⟨start, fin, before, l, after, af⟩ := s;dsimp only at h2 ⊢;have H := Lib.hid (fun o => EB A2 n2 c2 l _ rfl (w.alloc o) (sN h2 o) m2);have HB := Lib.hid (fun o => (Below.refl w.heap.size w).alloc (Nat.le_refl _) o);clear h2 m2;go_enter Tryz.func119, Tryz.ntmps119;go_wp2_with fail;refine (H.out _).mono ?_;rintro e w2 ⟨rfl, hb⟩;have aU := (HB.out _).trans (hb.mono (by simp));clear hb;go_wp2_with fail;go_ret;exact ⟨cw (by simp), aU⟩
end Go.Proofs.YthnhbcohfoodlaaGreatDoor
