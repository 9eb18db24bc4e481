/- Items + Side + SideMore + Told + SideWalk + PartP + FileP + ItemOk -/
import Derived.Test.YthnhbcohfoodlaaGreatDoorZw9
import Derived.Test.YthnhbcohfoodlaaGreatDoorZw5
set_option maxHeartbeats 3200000
set_option maxRecDepth 100000
namespace Go.Proofs.YthnhbcohfoodlaaGreatDoor
open Go.RowKit
def gM : List ak → Int
  | [] => 0
  | a :: r => if gh a = 0 then gM r else gh a
def aM (l : List ak) : Int := if 20 < l.length then 5 else gM l
theorem qh {w : World} {B n : Nat} {A : Option Addr} {l : List ak} (h : bF w B A n l) {k : Nat} {a : ak} (hk : l[k]? = some a) :
    ∃ (b off : Nat) (A' : Option Addr) (n' c' : Nat), A = some ⟨b, off, none⟩ ∧ b < B ∧ w.cell? ⟨b, off + k * 4, none⟩ = some (.int .i64 a.kind) ∧ w.cell? ⟨b, off + k * 4 + 1, none⟩ = some (.int .i32 a.rune) ∧
      w.cell? ⟨b, off + k * 4 + 2, none⟩ = some (.slice A' n' c') ∧ w.cell? ⟨b, off + k * 4 + 3, none⟩ = some (.string a.name) ∧ kW w B A' n' a.set ∧ n' ≤ maxLen ∧ fN a.kind ∧ a.name.size ≤ maxLen := by
 obtain ⟨b, off, cs, e, hb, ⟨A', n', c', hcs, h1, h2, h3, h4⟩, hc⟩ := iE.at h hk;subst hcs;exact ⟨b, off, A', n', c', e, hb, hc 0 _ rfl, hc 1 _ rfl, hc 2 _ rfl, hc 3 _ rfl, h1, h2, h3, h4⟩
def OW (W : World) (l : List ak) (n : Nat) (i : Value) (wr : World) : Prop :=
  ∃ k : Nat, k ≤ n ∧ i = .int .i64 k ∧ gM l = gM (l.drop k) ∧ Below W.heap.size W wr
def dL : List (List ak) → Int
  | [] => 0
  | l :: r => if aM l = 0 then dL r else aM l
def bG (s : bk) (eR : Bool) : Int :=
  if dL [s.before, s.source, s.after] = 0 then
    (if s.aa < -1 ∨ (s.source.length : Int) < s.aa then 3 else if eR = true ∧ s.source.length = 0 then 6 else 0)
  else dL [s.before, s.source, s.after]
def dS (l : List ak) : Bool := l.all fun a => a.kind == 1
def iU (s : bk) : Bool := s.start || s.fin || decide (0 < s.before.length) || decide (0 < s.after.length)
theorem kD {l : List ak} (h : aM l = 0) : l.length ≤ 20 := by
 unfold aM at h;by_cases h1 : 20 < l.length
 ·rw [if_pos h1] at h; cases h
 omega
theorem DJ {w : World} {A : Option Addr} {n : Nat} {l : List ak} (h : bF w w.heap.size A n l) (o : Obj) : bF (w.alloc o) (w.alloc o).heap.size A n l :=
  bF.weak (dG ((Below.refl _ _).alloc (Nat.le_refl _) o) (by simp)) h
theorem aH {w w' : World} {A : Option Addr} {n : Nat} {l : List ak} (h : bF w w.heap.size A n l) (hb : Below w.heap.size w w') : bF w' w'.heap.size A n l :=
  bF.weak (dG hb hb.size) h
theorem DM (a : ak) (l : List ak) : dS (a :: l) = ((a.kind == 1) && dS l) := rfl
def Pp (W : World) (l : List ak) (n : Nat) (i : Value) (wr : World) : Prop :=
  ∃ k : Nat, k ≤ n ∧ i = .int .i64 k ∧ dS l = dS (l.drop k) ∧ Below W.heap.size W wr
theorem gm (s : bk) (A1 A2 A3 : Option Addr) (n1 n2 n3 c1 c2 c3 : Nat) (w : World) (h1 : s.before.length = n1) (h3 : s.after.length = n3) (m1 : n1 ≤ 20) (m3 : n3 ≤ 20) :
    Calls Tryz.prog 120 #[.agg #[.bool s.start, .bool s.fin, .slice A1 n1 c1, .slice A2 n2 c2, .slice A3 n3 c3, .int .i64 s.aa]] w fun e w' => e = .returned (.bool (!iU s)) ∧ Below w.heap.size w w' := by
 have hv : iU s = (s.start || s.fin || decide (0 < n1) || decide (0 < n3)) := (by unfold iU; rw [h1, h3]);rw [hv];clear hv h1 h3;obtain ⟨start, fin, before, l, after, aa⟩ := s;dsimp only;cases start <;> cases fin
 ·go_enter Tryz.func120, Tryz.ntmps120;go_wp2_with fail;go_ret;exact ⟨e9 (by rw [Bool.eq_iff_iff]; simp; omega), (Below.refl _ _).alloc (Nat.le_refl _) _⟩
 all_goals
   go_enter Tryz.func120, Tryz.ntmps120
   go_wp2_with fail
   go_ret
   exact ⟨e9 (by simp), (Below.refl _ _).alloc (Nat.le_refl _) _⟩
theorem Jp (a : ak) (A : Option Addr) (n c : Nat) (w : World) :
    Calls Tryz.prog 159 #[.agg #[.int .i64 a.kind, .int .i32 a.rune, .slice A n c, .string a.name]] w fun e w' => e = .returned (.bool (a.kind != 1)) ∧ Below w.heap.size w w' := by
 go_enter Tryz.func159, Tryz.ntmps159;go_wp2_with fail;go_ret;exact ⟨rfl, (Below.refl _ _).alloc (Nat.le_refl _) _⟩
theorem Cu (A : Option Addr) (n c : Nat) (l : List ak) (fv : Value) (SA : fv = .func (.func 159) #[] #[]) (w : World) (hl : bF w w.heap.size A n l) (m : n ≤ maxLen) :
    Calls Tryz.prog 185 #[.slice A n c, fv] w fun e w' => (∃ z : Int, e = .returned (.int .i64 z) ∧ (decide (0 ≤ z) = !dS l)) ∧ Below w.heap.size w w' := by
 subst SA;have bY := Lib.hid (iE.len hl);have HL := Lib.hid hl;have hn2 : n ≤ 9223372036854775807 := (by unfold maxLen at m; omega);clear hl m;go_enter Tryz.func185, Tryz.ntmps185;go_wp2_with fail;go_loopw [8] (Pp w l n) (fun i _ => n - (intOf i).toNat);(case atStart => exact ⟨0, Nat.zero_le _, rfl, rfl, Below.refl _ _⟩);obtain ⟨k, hk, rfl, bU, hb⟩ := hrel;have hz := hb.size;by_cases hlt : k < n
 ·obtain ⟨a, ha⟩ : ∃ z, l[k]? = some z := ⟨_, List.getElem?_eq_getElem (by rw [bY.out]; exact hlt)⟩;rw [jB ha, DM] at bU;obtain ⟨b, off, A', n', c', rfl, eD, c0, Sb, XA, Xo, _, _, _, _⟩ := qh HL.out ha;have d0 := (hb.cell (p := ⟨b, off + k * 4, none⟩) eD).trans c0;have d1 := (hb.cell (p := ⟨b, off + k * 4 + 1, none⟩) eD).trans Sb;have d2 := (hb.cell (p := ⟨b, off + k * 4 + 2, none⟩) eD).trans XA;have d3 := (hb.cell (p := ⟨b, off + k * 4 + 3, none⟩) eD).trans Xo;have HT := Lib.hid (Jp a A' n' c' wr);clear c0 Sb XA Xo;by_cases fW : a.kind = 1
  ·have HG := Lib.hid (bU.trans (show (a.kind == 1 && dS (l.drop (k + 1))) = dS (l.drop (k + 1)) by simp [fW]));have hk2 : (a.kind != 1) = false := (by simpa using fW);clear bU fW;go_wp2_with fail;refine HT.out.mono ?_;rintro e w2 ⟨rfl, bn⟩;have aJ := hb.trans (bn.mono hz);rw [hk2];clear bn;go_wp2_with fail;exact ⟨⟨k + 1, by omega, by go_num, HG.out, aJ⟩, by simp [intOf]; omega⟩
  have HG := Lib.hid (bU.trans (show (a.kind == 1 && dS (l.drop (k + 1))) = false by simp [fW]));have hk2 : (a.kind != 1) = true := (by simpa using fW);clear bU fW;go_wp2_with fail;refine HT.out.mono ?_;rintro e w2 ⟨rfl, bn⟩;have aJ := hb.trans (bn.mono hz);rw [hk2];clear bn;go_wp2_with fail;go_ret;exact ⟨⟨_, rfl, by rw [HG.out]; simp⟩, aJ⟩
 obtain rfl : k = n := (by omega);rw [List.drop_of_length_le (by rw [bY.out]; omega)] at bU;have HG := Lib.hid (bU.trans (show dS [] = true from rfl));clear bU;go_wp2_with fail;go_ret;exact ⟨⟨_, rfl, by rw [HG.out]; simp⟩, hb⟩
theorem Jz (A : Option Addr) (n c : Nat) (l : List ak) (fv : Value) (SA : fv = .func (.func 159) #[] #[]) (w : World) (hl : bF w w.heap.size A n l) (m : n ≤ maxLen) :
    Calls Tryz.prog 158 #[.slice A n c, fv] w fun e w' => e = .returned (.bool (!dS l)) ∧ Below w.heap.size w w' := by
 have H := Lib.hid (Cu A n c l fv SA w hl m);clear hl m SA;go_enter Tryz.func158, Tryz.ntmps158;go_wp2_with fail;refine H.out.mono ?_;rintro e w2 ⟨⟨z, rfl, hz⟩, hb⟩;have HZ := Lib.hid hz;clear hz;go_wp2_with fail;go_ret;exact ⟨e9 HZ.out, hb⟩
theorem gw (s : bk) (A1 A2 A3 : Option Addr) (n1 n2 n3 c1 c2 c3 : Nat) (w : World) (h2 : bF w w.heap.size A2 n2 s.source) (m2 : n2 ≤ maxLen) :
    Calls Tryz.prog 119 #[.agg #[.bool s.start, .bool s.fin, .slice A1 n1 c1, .slice A2 n2 c2, .slice A3 n3 c3, .int .i64 s.aa]] w fun e w' => e = .returned (.bool (dS s.source)) ∧ Below w.heap.size w w' := by
 obtain ⟨start, fin, before, l, after, aa⟩ := s;dsimp only at h2 ⊢;have H := Lib.hid (fun o => Jz A2 n2 c2 l _ rfl (w.alloc o) (DJ h2 o) m2);have HB := Lib.hid (fun o => (Below.refl w.heap.size w).alloc (Nat.le_refl _) o);clear h2 m2;go_enter Tryz.func119, Tryz.ntmps119;go_wp2_with fail;refine (H.out _).mono ?_;rintro e w2 ⟨rfl, hb⟩;have bn := (HB.out _).trans (hb.mono (by simp));clear hb;go_wp2_with fail;go_ret;exact ⟨e9 (by simp), bn⟩
def PJ (W : World) (s : bk) (i : Value) (wr : World) : Prop :=
  ∃ j : Nat, j ≤ 3 ∧ i = .int .i64 j ∧ dL [s.before, s.source, s.after] = dL ([s.before, s.source, s.after].drop j) ∧ Below W.heap.size W wr
theorem all_cons (l : List ak) (r : List (List ak)) : dL (l :: r) = if aM l = 0 then dL r else aM l := rfl
theorem FE (s : bk) (W : World) (A1 A2 A3 : Option Addr) (n1 n2 n3 c1 c2 c3 : Nat) (h1 : bF W W.heap.size A1 n1 s.before) (h2 : bF W W.heap.size A2 n2 s.source) (h3 : bF W W.heap.size A3 n3 s.after) (m1 : n1 ≤ maxLen) (m2 : n2 ≤ maxLen) (m3 : n3 ≤ maxLen) (j : Nat) (hj : j < 3) :
    ∃ (A : Option Addr) (n c : Nat) (l : List ak), (#[.slice A1 n1 c1, .slice A2 n2 c2, .slice A3 n3 c3] : Array Value)[j]? = some (.slice A n c) ∧ bF W W.heap.size A n l ∧ n ≤ maxLen ∧ [s.before, s.source, s.after].drop j = l :: [s.before, s.source, s.after].drop (j + 1) := by
 match j, hj with
 | 0, _ => exact ⟨A1, n1, c1, s.before, rfl, h1, m1, rfl⟩
 | 1, _ => exact ⟨A2, n2, c2, s.source, rfl, h2, m2, rfl⟩
 | 2, _ => exact ⟨A3, n3, c3, s.after, rfl, h3, m3, rfl⟩
theorem gn (s : bk) (eR : Bool) (A1 A2 A3 : Option Addr) (n1 n2 n3 c1 c2 c3 : Nat) (w : World) (h1 : bF w w.heap.size A1 n1 s.before) (h2 : bF w w.heap.size A2 n2 s.source) (h3 : bF w w.heap.size A3 n3 s.after) (m1 : n1 ≤ maxLen) (m2 : n2 ≤ maxLen) (m3 : n3 ≤ maxLen) :
    Calls Tryz.prog 118 #[.agg #[.bool s.start, .bool s.fin, .slice A1 n1 c1, .slice A2 n2 c2, .slice A3 n3 c3, .int .i64 s.aa], .bool eR] w fun e w' => e = .returned (.int .i64 (bG s eR)) ∧ Below w.heap.size w w' := by
 have jP := iE.len h2;generalize hcs : (#[.bool s.start, .bool s.fin, .slice A1 n1 c1, .slice A2 n2 c2, .slice A3 n3 c3, .int .i64 s.aa] : Array Value) = cs;have bt : Below w.heap.size w (w.alloc (.cells cs 96)) := (Below.refl _ _).alloc (Nat.le_refl _) _;have bn : Below w.heap.size w ((w.alloc (.cells cs 96)).alloc (.cells #[.slice A1 n1 c1, .slice A2 n2 c2, .slice A3 n3 c3] 94)) := bt.alloc bt.size _;have fW : au ((w.alloc (.cells cs 96)).alloc (.cells #[.slice A1 n1 c1, .slice A2 n2 c2, .slice A3 n3 c3] 94)) w.heap.size 96 cs := (au.new _ _ _).alloc _;have hk2 : au ((w.alloc (.cells cs 96)).alloc (.cells #[.slice A1 n1 c1, .slice A2 n2 c2, .slice A3 n3 c3] 94)) (w.heap.size + 1) 94 #[.slice A1 n1 c1, .slice A2 n2 c2, .slice A3 n3 c3] := by
  have := au.new (w.alloc (.cells cs 96)) 94 #[.slice A1 n1 c1, .slice A2 n2 c2, .slice A3 n3 c3];simpa using this
 have fP := Lib.hid (FE s _ A1 A2 A3 n1 n2 n3 c1 c2 c3 (aH h1 bn) (aH h2 bn) (aH h3 bn) m1 m2 m3);have hm2 : n2 ≤ 9223372036854775807 := (by unfold maxLen at m2; omega);have HB := Lib.hid bn;have tI := Lib.hid fW;have EE := Lib.hid hk2;clear h1 h2 h3 m1 m2 m3 bt bn fW hk2;subst hcs;go_enter Tryz.func118, Tryz.ntmps118;go_wp2_with fail;generalize hW : ((w.alloc (.cells #[.bool s.start, .bool s.fin, .slice A1 n1 c1, .slice A2 n2 c2, .slice A3 n3 c3, .int .i64 s.aa] 96)).alloc (.cells #[.slice A1 n1 c1, .slice A2 n2 c2, .slice A3 n3 c3] 94)) = W at *;clear hW;go_loopw [18] (PJ W s) (fun i _ => 3 - (intOf i).toNat);(case atStart => exact ⟨0, by omega, rfl, rfl, Below.refl _ _⟩);obtain ⟨j, hj, rfl, hall, hb⟩ := hrel;have hz := hb.size;by_cases N6 : j < 3
 ·obtain ⟨A, n, c, l, hc, hl, hm, hd⟩ := fP.out j N6;rw [hd, all_cons l] at hall;have dj : wr.cell? ⟨w.heap.size + 1, j, none⟩ = some (.slice A n c) := by
   rw [(au.below EE.out hb EE.out.lt).cell j];exact hc
  have ht : decide ((j : Int) < 3) = true := decide_eq_true (by omega);have bY := Lib.hid (iE.len hl);have HL := Lib.hid hl;have hn : n ≤ 9223372036854775807 := (by unfold maxLen at hm; omega);clear hl hc hd hm;by_cases h20 : 20 < n
  ·have GL : aM l = 5 := (by unfold aM; rw [if_pos (by rw [bY.out]; exact h20)]);rw [if_neg (by rw [GL]; decide), GL] at hall;have HV := Lib.hid (show bG s eR = 5 by unfold bG; rw [hall]; rfl);clear hall GL;go_wp2_with fail;go_ret;rw [HV.out];exact ⟨rfl, HB.out.trans (hb.mono HB.out.size)⟩
  have Xk : aM l = gM l := (by unfold aM; rw [if_neg (by rw [bY.out]; exact h20)]);rw [Xk] at hall;have HA := Lib.hid hall;clear hall Xk;go_wp2_with fail;go_loopw [27] (OW W l n) (fun i _ => n - (intOf i).toNat);(case atStart => exact ⟨0, Nat.zero_le _, rfl, rfl, hb⟩);clear hb hz;obtain ⟨k, hk, rfl, bU, hb⟩ := hrel;have hz := hb.size;by_cases hlt : k < n
  ·obtain ⟨a, ha⟩ : ∃ z, l[k]? = some z := ⟨_, List.getElem?_eq_getElem (by rw [bY.out]; exact hlt)⟩;rw [jB ha, gM] at bU;obtain ⟨b, off, A', n', c', rfl, eD, d0, d1, d2, d3, gZ, hn', _, hnm⟩ := qh HL.out ha;have d0 := (hb.cell (p := ⟨b, off + k * 4, none⟩) eD).trans d0;have d1 := (hb.cell (p := ⟨b, off + k * 4 + 1, none⟩) eD).trans d1;have d2 := (hb.cell (p := ⟨b, off + k * 4 + 2, none⟩) eD).trans d2;have d3 := (hb.cell (p := ⟨b, off + k * 4 + 3, none⟩) eD).trans d3;have bt := fun o => hb.alloc hz o;have HI := Lib.hid (fun o => yC a A' n' c' (World.alloc _ o) (by unfold maxLen at hn'; omega) (Rd.more (Rd.below gZ (bt o)) (by simp; omega)));have cy := Lib.hid bt;clear gZ bt hnm hn';unfold G7 at HI;by_cases hi : gh a = 0
   ·rw [if_pos hi] at bU;have HG := Lib.hid bU;clear bU;go_wp2_with fail;refine (HI.out _).mono ?_;rintro e w2 ⟨rfl, bn⟩;rw [hi];have aJ := (cy.out _).trans (bn.mono (by simp; omega));have dQ := Lib.hid aJ;clear bn aJ;go_wp2_with fail;exact ⟨⟨k + 1, by omega, by go_num, HG.out, dQ.out⟩, by simp [intOf]; omega⟩
   rw [if_neg hi] at bU;have hi2 : (gh a != 0) = true := (by simpa using hi);have nT := HA.out;rw [bU, if_neg hi] at nT;have HV := Lib.hid (show bG s eR = gh a by unfold bG; rw [nT, if_neg hi]);clear bU hi nT;go_wp2_with fail;refine (HI.out _).mono ?_;rintro e w2 ⟨rfl, bn⟩;have aJ := (cy.out _).trans (bn.mono (by simp; omega));have dQ := Lib.hid aJ;clear bn aJ;go_wp2_with fail;go_ret;rw [HV.out];exact ⟨rfl, HB.out.trans (dQ.out.mono HB.out.size)⟩
  obtain rfl : k = n := (by omega);rw [List.drop_of_length_le (by rw [bY.out]; omega)] at bU;have nT := HA.out;rw [bU, if_pos (show gM [] = 0 from rfl)] at nT;have HG := Lib.hid nT;clear bU nT;go_wp2_with fail;exact ⟨⟨j + 1, by omega, by go_num, HG.out, hb⟩, by simp [intOf]; omega⟩
 obtain rfl : j = 3 := (by omega);have ha0 : dL [s.before, s.source, s.after] = 0 := hall;have iB := au.below tI.out hb tI.out.lt;have d3 : wr.cell? ⟨w.heap.size, 3, none⟩ = some (.slice A2 n2 c2) := iB.cell 3;have d5 : wr.cell? ⟨w.heap.size, 5, none⟩ = some (.int .i64 s.aa) := iB.cell 5;have hb0 := HB.out.trans (hb.mono HB.out.size);have HS := Lib.hid (show bG s eR = if s.aa < -1 ∨ (n2 : Int) < s.aa then 3 else if eR = true ∧ n2 = 0 then 6 else 0 by unfold bG; rw [if_pos ha0, jP]);clear hall ha0 iB jP;have jR := Lib.hid hb0;clear hb0;by_cases hc : s.aa < -1 ∨ (n2 : Int) < s.aa
 ·have HV := Lib.hid (show bG s eR = 3 by rw [HS.out, if_pos hc]);rcases (show s.aa < -1 ∨ (-1 ≤ s.aa ∧ (n2 : Int) < s.aa) by omega) with h | ⟨h, h'⟩
  all_goals
    clear hc
    go_wp2_with fail
    go_ret
    rw [HV.out]
    exact ⟨rfl, jR.out⟩
 have fO : -1 ≤ s.aa := (by omega);have jj : s.aa ≤ n2 := (by omega);cases hmust : eR
 ·have HV := Lib.hid (show bG s false = 0 by rw [← hmust, HS.out, if_neg hc, hmust]; simp);subst hmust;clear hc;go_wp2_with fail;go_ret;rw [HV.out];exact ⟨rfl, jR.out⟩
 subst hmust;by_cases h0 : n2 = 0
 ·have HV := Lib.hid (show bG s true = 6 by rw [HS.out, if_neg hc, h0]; simp);have kZ : ((n2 : Int) == 0) = true := (by simp; omega);clear hc;go_wp2_with fail;go_ret;rw [HV.out];exact ⟨rfl, jR.out⟩
 have HV := Lib.hid (show bG s true = 0 by rw [HS.out, if_neg hc]; simp [h0]);have kZ : ((n2 : Int) == 0) = false := (by simp; omega);clear hc;go_wp2_with fail;go_ret;rw [HV.out];exact ⟨rfl, jR.out⟩
def oM (dir : Int) (left right : bk) : Bool :=
  (dir == 2 || dS right.source) && (dir == 1 || dS left.source) && (dir != 1 || (!iU right && decide (left.aa < 0))) && (dir != 2 || (!iU left && decide (right.aa < 0)))
def ck (dir : Int) (left right : bk) : Int :=
  if dir < 1 ∨ 3 < dir then 1
  else if bG left (dir != 2) = 0 then (if bG right (dir != 1) = 0 then (if oM dir left right = true then 0 else 8) else bG right (dir != 1))
  else bG left (dir != 2)
def dm (p : ay) : Int :=
  if p.kind = 1 then (if cV p.name = true then cm p.set else 7)
  else if p.kind = 3 then cm p.set
  else if p.kind = 4 then (if ku p.name = true then 0 else 7)
  else if p.kind = 2 then ck p.dir p.left p.right
  else 1
theorem EF {s : bk} (h : dL [s.before, s.source, s.after] = 0) : s.before.length ≤ 20 ∧ s.source.length ≤ 20 ∧ s.after.length ≤ 20 := by
 simp only [dL] at h;by_cases h1 : aM s.before = 0
 ·rw [if_pos h1] at h;by_cases h2 : aM s.source = 0
  ·rw [if_pos h2] at h;by_cases h3 : aM s.after = 0;exact ⟨kD h1, kD h2, kD h3⟩;rw [if_neg h3] at h; exact absurd h h3
  rw [if_neg h2] at h; exact absurd h h2
 rw [if_neg h1] at h; exact absurd h h1
theorem dJ {s : bk} {eR : Bool} (h : bG s eR = 0) : s.before.length ≤ 20 ∧ s.source.length ≤ 20 ∧ s.after.length ≤ 20 := by
 unfold bG at h;by_cases h1 : dL [s.before, s.source, s.after] = 0;exact EF h1;rw [if_neg h1] at h; exact absurd h h1
def jr : Nat → List ay → Int × Int
  | _, [] => (0, 0)
  | i, p :: r => if dm p = 0 then jr (i + 1) r else (dm p, i)
def bN (l : List ay) : Int × Int := if 200 < l.length then (5, 0) else jr 0 l
theorem yI {w : World} {B n : Nat} {A : Option Addr} {l : List ay} (h : rX w B A n l) {k : Nat} {p : ay} (hk : l[k]? = some p) :
    ∃ (b off : Nat) (A' : Option Addr) (n' c' : Nat) (L1 L2 L3 R1 R2 R3 : Option Addr) (a1 a2 a3 x1 x2 x3 b1 b2 b3 y1 y2 y3 : Nat), A = some ⟨b, off, none⟩ ∧ b < B ∧ (w.cell? ⟨b, off + k * 16, none⟩ = some (.int .i64 p.kind) ∧ w.cell? ⟨b, off + k * 16 + 1, none⟩ = some (.string p.name) ∧ w.cell? ⟨b, off + k * 16 + 2, none⟩ = some (.slice A' n' c') ∧ w.cell? ⟨b, off + k * 16 + 3, none⟩ = some (.int .i64 p.dir) ∧ w.cell? ⟨b, off + k * 16 + 4, none⟩ = some (.bool p.left.start) ∧ w.cell? ⟨b, off + k * 16 + 5, none⟩ = some (.bool p.left.fin) ∧ w.cell? ⟨b, off + k * 16 + 6, none⟩ = some (.slice L1 a1 x1) ∧ w.cell? ⟨b, off + k * 16 + 7, none⟩ = some (.slice L2 a2 x2) ∧ w.cell? ⟨b, off + k * 16 + 8, none⟩ = some (.slice L3 a3 x3) ∧ w.cell? ⟨b, off + k * 16 + 9, none⟩ = some (.int .i64 p.left.aa) ∧ w.cell? ⟨b, off + k * 16 + 10, none⟩ = some (.bool p.right.start) ∧ w.cell? ⟨b, off + k * 16 + 11, none⟩ = some (.bool p.right.fin) ∧ w.cell? ⟨b, off + k * 16 + 12, none⟩ = some (.slice R1 b1 y1) ∧ w.cell? ⟨b, off + k * 16 + 13, none⟩ = some (.slice R2 b2 y2) ∧ w.cell? ⟨b, off + k * 16 + 14, none⟩ = some (.slice R3 b3 y3) ∧ w.cell? ⟨b, off + k * 16 + 15, none⟩ = some (.int .i64 p.right.aa)) ∧ kW w B A' n' p.set ∧ n' ≤ maxLen ∧ bF w B L1 a1 p.left.before ∧ bF w B L2 a2 p.left.source ∧ bF w B L3 a3 p.left.after ∧ a1 ≤ maxLen ∧ a2 ≤ maxLen ∧ a3 ≤ maxLen ∧ bF w B R1 b1 p.right.before ∧ bF w B R2 b2 p.right.source ∧ bF w B R3 b3 p.right.after ∧ b1 ≤ maxLen ∧ b2 ≤ maxLen ∧ b3 ≤ maxLen ∧ fN p.left.aa ∧ fN p.right.aa ∧ p.name.size ≤ maxLen := by
 obtain ⟨b, off, cs, e, hb, ⟨A', n', c', ls, rs, hcs, h1, h2, ⟨L1, a1, x1, L2, a2, x2, L3, a3, x3, hls, l1, l2, l3, l4, l5, l6, l7⟩, ⟨R1, b1, y1, R2, b2, y2, R3, b3, y3, OQ, r1, r2, r3, r4, r5, r6, r7⟩, _, _, h5⟩, hc⟩ := iE.at h hk;subst hls OQ;subst hcs;exact ⟨b, off, A', n', c', L1, L2, L3, R1, R2, R3, a1, a2, a3, x1, x2, x3, b1, b2, b3, y1, y2, y3, e, hb, ⟨hc 0 _ rfl, hc 1 _ rfl, hc 2 _ rfl, hc 3 _ rfl, hc 4 _ rfl, hc 5 _ rfl, hc 6 _ rfl, hc 7 _ rfl, hc 8 _ rfl, hc 9 _ rfl, hc 10 _ rfl, hc 11 _ rfl, hc 12 _ rfl, hc 13 _ rfl, hc 14 _ rfl, hc 15 _ rfl⟩, h1, h2, l1, l2, l3, l4, l5, l6, r1, r2, r3, r4, r5, r6, l7, r7, h5⟩
def O9 (w : World) (l : List ay) (n : Nat) (i : Value) (wr : World) : Prop :=
  ∃ k : Nat, k ≤ n ∧ i = .int .i64 k ∧ jr 0 l = jr k (l.drop k) ∧ au wr w.heap.size 25 #[.int .i64 0, .int .i64 0] ∧ Below w.heap.size w wr
theorem dN {l : List ak} (h : aM l = 0) : l.length ≤ 20 ∧ ∀ a ∈ l, gh a = 0 := by
 have h20 := kD h;refine ⟨h20, ?_⟩;unfold aM at h;rw [if_neg (by omega)] at h;clear h20;induction l with
 | nil => simp
 | cons a l ih =>
  rw [gM] at h;by_cases h1 : gh a = 0
  ·rw [if_pos h1] at h;intro x hx;rcases List.mem_cons.1 hx with rfl | hx;exact h1;exact ih h x hx
  rw [if_neg h1] at h;exact absurd h h1
theorem gR {a : ak} (h : gh a = 0) : (a.kind = 1 ∧ aU a.rune = true) ∨ (a.kind = 2 ∧ cm a.set = 0) ∨ (a.kind = 3 ∧ cV a.name = true) := by
 unfold gh at h;by_cases h1 : a.kind = 1
 ·rw [if_pos h1] at h;cases hr : aU a.rune
  ·rw [hr] at h; simp at h
  exact .inl ⟨h1, rfl⟩
 rw [if_neg h1] at h;by_cases h2 : a.kind = 2
 ·rw [if_pos h2] at h;exact .inr (.inl ⟨h2, h⟩)
 rw [if_neg h2] at h;by_cases h3 : a.kind = 3
 ·rw [if_pos h3] at h;cases hr : cV a.name
  ·rw [hr] at h; simp at h
  exact .inr (.inr ⟨h3, rfl⟩)
 rw [if_neg h3] at h;cases h
theorem jO {s : ByteArray} (h : cV s = true) : s.size ≤ 20 := by
 unfold cV at h;rw [decide_eq_true_iff] at h;exact h.2.1
theorem tP {s : bk} {eR : Bool} (h : bG s eR = 0) : aM s.before = 0 ∧ aM s.source = 0 ∧ aM s.after = 0 := by
 unfold bG at h;by_cases h0 : dL [s.before, s.source, s.after] = 0
 ·simp only [dL] at h0;by_cases h1 : aM s.before = 0
  ·rw [if_pos h1] at h0;by_cases h2 : aM s.source = 0
   ·rw [if_pos h2] at h0;by_cases h3 : aM s.after = 0;exact ⟨h1, h2, h3⟩;rw [if_neg h3] at h0; exact absurd h0 h3
   rw [if_neg h2] at h0; exact absurd h0 h2
  rw [if_neg h1] at h0; exact absurd h0 h1
 rw [if_neg h0] at h;exact absurd h h0
def JE (p : ay) : Prop :=
  (p.dir = 1 ∨ p.dir = 2 ∨ p.dir = 3) ∧ (aM p.left.before = 0 ∧ aM p.left.source = 0 ∧ aM p.left.after = 0) ∧ (aM p.right.before = 0 ∧ aM p.right.source = 0 ∧ aM p.right.after = 0)
theorem fB {p : ay} (h : dm p = 0) : (p.kind = 1 ∧ cV p.name = true ∧ cm p.set = 0) ∨ (p.kind = 3 ∧ cm p.set = 0) ∨ (p.kind = 4 ∧ ku p.name = true) ∨ (p.kind = 2 ∧ JE p) := by
 unfold dm at h;by_cases h1 : p.kind = 1
 ·rw [if_pos h1] at h;cases hn : cV p.name
  ·rw [hn] at h; simp at h
  rw [hn, if_pos rfl] at h;exact .inl ⟨h1, rfl, h⟩
 rw [if_neg h1] at h;by_cases h3 : p.kind = 3
 ·rw [if_pos h3] at h;exact .inr (.inl ⟨h3, h⟩)
 rw [if_neg h3] at h;by_cases h4 : p.kind = 4
 ·rw [if_pos h4] at h;cases hn : ku p.name
  ·rw [hn] at h; simp at h
  exact .inr (.inr (.inl ⟨h4, rfl⟩))
 rw [if_neg h4] at h;by_cases h2 : p.kind = 2
 ·rw [if_pos h2] at h;unfold ck at h;by_cases hd : p.dir < 1 ∨ 3 < p.dir
  ·rw [if_pos hd] at h; cases h
  rw [if_neg hd] at h;by_cases hl : bG p.left (p.dir != 2) = 0
  ·rw [if_pos hl] at h;by_cases hr : bG p.right (p.dir != 1) = 0;exact .inr (.inr (.inr ⟨h2, by omega, tP hl, tP hr⟩));rw [if_neg hr] at h; exact absurd h hr
  rw [if_neg hl] at h; exact absurd h hl
 rw [if_neg h2] at h;cases h
theorem Gw {l : List ay} : ∀ i, (jr i l).1 = 0 → jr i l = (0, 0) ∧ ∀ p ∈ l, dm p = 0 := by
 induction l with
 | nil => intro i _; exact ⟨rfl, by simp⟩
 | cons p l ih =>
  intro i h;rw [jr] at h ⊢;by_cases h1 : dm p = 0
  ·rw [if_pos h1] at h ⊢;obtain ⟨h2, h3⟩ := ih (i + 1) h;refine ⟨h2, fun q hq => ?_⟩;rcases List.mem_cons.1 hq with rfl | hq;exact h1;exact h3 q hq
  rw [if_neg h1] at h;exact absurd h h1
theorem qA {l : List ay} (h : (bN l).1 = 0) : l.length ≤ 200 ∧ bN l = (0, 0) ∧ ∀ p ∈ l, dm p = 0 := by
 unfold bN at h ⊢;by_cases h2 : 200 < l.length
 ·rw [if_pos h2] at h; cases h
 rw [if_neg h2] at h ⊢;obtain ⟨h3, h4⟩ := Gw 0 h;exact ⟨by omega, h3, h4⟩
end Go.Proofs.YthnhbcohfoodlaaGreatDoor
