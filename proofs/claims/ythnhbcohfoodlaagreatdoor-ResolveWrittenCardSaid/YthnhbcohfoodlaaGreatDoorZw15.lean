/- SetsRef + Env + SetsSyn + RuleRef -/
import Derived.Test.YthnhbcohfoodlaaGreatDoorZw5
import Derived.Test.YthnhbcohfoodlaaGreatDoorZw9
import Derived.Lib.Strings
import Derived.Test.YthnhbcohfoodlaaGreatDoorZw10
import Derived.Deep.DeepCutAuto
import Derived.Test.YthnhbcohfoodlaaGreatDoorZw6
import Derived.Test.YthnhbcohfoodlaaGreatDoorZw4
import Derived.Maps.OwnSet
import Derived.StringKeys
set_option maxHeartbeats 3200000
set_option maxRecDepth 100000
namespace Go.Proofs.YthnhbcohfoodlaaGreatDoor
open Go.RowKit
theorem IV : (Tryz.prog.info? 22).map (fun i => (i.zero, i.size, i.bytes)) = some (some (.slice none 0 0), 1, 24) := by kernel_rfl
def Kh (B lo : Nat) (v : Value) (b : Nat) : Prop := Fr B lo b ∧ v.ownBlock ≠ some b
def kz (w : World) (B : Nat) (ll : List af) (v : Value) (wx : World) : Prop := dc (tw wx (Kh B w.heap.size v)) 22 1 wx w.heap.size v ll ∧ Below w.heap.size w wx
section
variable {w wx w2 : World} {B : Nat} {ll : List af} {v v' : Value}
theorem kz.nil (w : World) (B : Nat) : kz w B [] (.slice none 0 0) w := ⟨dc.nil _ _, Below.refl _ _⟩
theorem kz.alloc (h : kz w B ll v wx) (o : Obj) : kz w B ll v (wx.alloc o) :=
  ⟨h.1.kept (fun _ _ h => World.ownsRow.alloc h o) (fun _ _ h => h.keep (ag.alloc o (fun _ h _ => h))), h.2.alloc h.2.size o⟩
theorem kz.below (h : kz w B ll v wx) (hb : Below wx.heap.size wx w2) : kz w B ll v w2 :=
  ⟨h.1.kept (fun _ _ h => eX h hb) (fun _ _ h => h.keep (ag.below hb (fun _ h _ => h))), h.2.trans (hb.mono h.2.size)⟩
theorem uz {base sz n : Nat} {e : TypeId} {xs : List Value} (h : wx.ownsRow base e sz v n xs) {b : Nat} (hb : b < base ∨ wx.heap.size ≤ b) : v.ownBlock ≠ some b := fun e => by
 have := bM h e;omega
theorem kz.push {css : List (List Value)} {s : af} {u : Value} {t : TypeId} (h1 : css.length = ll.length) (h2 : ∀ (i : Nat) (a : af) (cs : List Value), ll[i]? = some a → css[i]? = some cs → tw wx (Kh B w.heap.size v) a cs) (h3 : ∀ cs ∈ css, cs.length = 1)
    (h4 : wx.ownsRow w.heap.size 22 1 v ll.length css.flatten) (hb : Below w.heap.size w wx) (hu : js wx (Kh B w.heap.size v) s u)
    (ha : bg w.heap.size 22 1 v (wx.alloc (.cells #[u] t)) (ll.length + 1) (css.flatten ++ [u]) v' w2) : kz w B (ll ++ [s]) v' w2 := by
 have hk : ag wx (Kh B w.heap.size v) w2 (Kh B w.heap.size v') := by
  refine (ag.alloc (.cells #[u] t) (fun _ h _ => h)).trans (ag.app (X' := fun b => Kh B w.heap.size v' b) ha (fun b hx => hx.2) (fun b hx hl => ⟨hx.1, ?_⟩));rcases ha.2.2 with e | e
  ·rw [e]; exact hx.2
  rw [e];intro he;injection he with he;omega
 refine ⟨dc.push h1 h2 h3 (fun _ _ h => h.keep hk) ⟨u, rfl, hu.keep hk⟩ rfl ha, ?_⟩;exact (hb.alloc hb.size (.cells #[u] t)).trans (ha.below (hb.alloc hb.size (.cells #[u] t)).size (World.ownsRow.alloc h4 _))
end
def It (w : World) (B lo : Nat) (r : Option (List af)) (e : Ending) : Prop :=
  match r with
  | some ll => ∃ u, e = .returned (.tuple #[u, .bool true]) ∧ mw w (Fr B lo) ll u
  | none => e = .returned (.tuple #[.slice none 0 0, .bool false])
theorem kz.post {w wx : World} {B : Nat} {ll : List af} {v : Value} (h : kz w B ll v wx) (hl : ll.length ≤ maxLen) : mw wx (Fr B w.heap.size) ll v := by
 obtain ⟨A, c, rfl, _⟩ := h.1.form;refine ⟨A, _, c, rfl, dc.done h.1 (fun _ _ h => h.keep (ag.refl (fun _ h => h.1))) (fun b hb => .inr ?_), hl⟩;obtain ⟨css, _, _, _, h4⟩ := h.1;exact (bM h4 hb).1
def Nq (w : World) (B : Nat) (l : List ay) (L : List ak) (n : Nat) (out i : Value) (wr : World) : Prop :=
  ∃ (k : Nat) (ll : List af), k ≤ n ∧ i = .int .i64 k ∧ cj l (L.take k) = some ll ∧ kz w B ll out wr
end Go.Proofs.YthnhbcohfoodlaaGreatDoor
namespace Go.Proofs.YthnhbcohfoodlaaGreatDoor
open Go.RowKit Go.Maps
def fo (w : World) (X : Nat → Prop) (mb n : Nat) (l : List ay) : Prop :=
  ∃ D : DataW Value, w.ownsMap Tryz.prog 9 Raw mb n D ∧ IsMap D ∧ ∀ s : ByteArray, match fD l s with
    | some set => ∃ u, D.atKey (eT s) sY = .held u ∧ has D (eT s) = true ∧ js w X set u
    | none => D.atKey (eT s) sY = sY ∧ has D (eT s) = false
theorem fo.keep {w w' : World} {X X' : Nat → Prop} {mb n : Nat} {l : List ay} (hk : ag w X w' X') (hm : w'.heap[mb]? = w.heap[mb]?) (h : fo w X mb n l) : fo w' X' mb n l := by
 obtain ⟨D, ⟨es, clock, h1, h2⟩, h3, h4⟩ := h;refine ⟨D, ⟨es, clock, hm.trans h1, h2⟩, h3, fun s => ?_⟩;have := h4 s;cases hl : fD l s with
 | none => rw [hl] at this; exact this
 | some set =>
  rw [hl] at this;obtain ⟨u, g1, g2, g3⟩ := this;exact ⟨u, g1, g2, g3.keep hk⟩
theorem fo.lt {w : World} {X : Nat → Prop} {mb n : Nat} {l : List ay} (h : fo w X mb n l) : mb < w.heap.size := by
 obtain ⟨D, h1, _⟩ := h;exact h1.lt
theorem fo.made (w : World) (X : Nat → Prop) : fo (w.alloc (.map #[] 0)) X w.heap.size 0 [] :=
  ⟨.map [], World.ownsMap_made _ _ _ _, isMap_empty, fun s => ⟨by simp [DataW.atKey], by simp [has]⟩⟩
theorem vU (l : List ay) (p : ay) (s : ByteArray) : fD (l ++ [p]) s = match fD l s with
    | some x => some x
    | none => if p.kind = 1 ∧ p.name = s then some p.set else none := by
 induction l with
 | nil => simp [fD]
 | cons q l ih =>
  rw [List.cons_append, fD, fD];by_cases h : q.kind = 1 ∧ q.name = s
  ·rw [if_pos h, if_pos h]
  rw [if_neg h, if_neg h, ih]
theorem fo.put {w w' : World} {X : Nat → Prop} {mb n : Nat} {l : List ay} {p : ay} {u : Value} {D : DataW Value} (hD : IsMap D)
    (h4 : ∀ s : ByteArray, match fD l s with
      | some set => ∃ u, D.atKey (eT s) sY = .held u ∧ has D (eT s) = true ∧ js w X set u
      | none => D.atKey (eT s) sY = sY ∧ has D (eT s) = false)
    (hp : p.kind = 1) (hno : fD l p.name = none) (hu : js w X p.set u) (hk : ag w X w' X)
    (hown : w'.ownsMap Tryz.prog 9 Raw mb n (D.put (eT p.name) (.held u))) : fo w' X mb n (l ++ [p]) := by
 refine ⟨_, hown, hD.put _ _, fun s => ?_⟩;rw [vU];by_cases hs : p.name = s
 ·subst hs;rw [hno];dsimp only;rw [if_pos ⟨hp, rfl⟩];exact ⟨u, atKey_put_same hD (tJ _) _ _, has_put_same hD (tJ _) _, hu.keep hk⟩
 have hne : eT s ≠ eT p.name := fun e => hs (BY e).symm;have := h4 s;cases hl : fD l s with
 | none =>
  rw [hl] at this;dsimp only;rw [if_neg (fun h => hs h.2), atKey_put_other hne, has_put_other hne];exact this
 | some set =>
  rw [hl] at this;obtain ⟨v, g1, g2, g3⟩ := this;dsimp only;exact ⟨v, by rw [atKey_put_other hne]; exact g1, by rw [has_put_other hne]; exact g2, g3.keep hk⟩
theorem fo.other {w : World} {X : Nat → Prop} {mb n : Nat} {l : List ay} {p : ay} (h : fo w X mb n l) (hp : p.kind ≠ 1) : fo w X mb n (l ++ [p]) := by
 obtain ⟨D, h1, h2, h3⟩ := h;refine ⟨D, h1, h2, fun s => ?_⟩;have := h3 s;rw [vU];cases hl : fD l s with
 | none => rw [hl] at this; dsimp only; rw [if_neg (fun h => hp h.1)]; exact this
 | some set => rw [hl] at this; exact this
theorem mg {w : World} {ops : Array Oper} {rest : List Oper} {o : Oper} {a : Act} {Q : Exit → Act → World → Prop} (hg : o.guard = none) (m x : Operand) (hop : o.op = Op.lookup 159 m x true)
    (mb n : Nat) (D : DataW Value) (hm : a.eval m = .map (some mb)) (hown : w.ownsMap Tryz.prog 9 Raw mb n D) (s : ByteArray) (hx : a.eval x = .string s) (hs : s.size ≤ maxLen) (u : Value) (b : Bool)
    (h1 : D.atKey (eT s) sY = .held u) (h2 : has D (eT s) = b) (hK : wpList Tryz.prog ops Q rest (a.put o.dst (.tuple #[u, .bool b])) w) : wpList Tryz.prog ops Q (o :: rest) a w :=
  wpList_lookup_own_ok w hg m x _ hop 9 22 gK Tryz.underlying159 Raw (KO w) sY [] rfl mb n D hm hown (.string s) (eT s) hx (jt hs) (fun v ps hv => by
    rw [h1] at hv
    unfold Raw at hv
    injection hv with hv
    injection hv with hv
    injection hv with hv
    subst hv
    rw [h2]
    exact hK)
theorem nN (A : Option Addr) (n c B : Nat) (s : af) (w : World) (h : Rd w B 2 A n (ah s)) (hn : n ≤ 1000) :
    Calls Tryz.prog 89 #[.slice A n c] w fun e w' => (∃ u, e = .returned u ∧ js w' (fun b => w.heap.size ≤ b) s u) ∧ Below w.heap.size w w' := by
 obtain ⟨i0, hi, hz0, ko, kZ⟩ := info_parts jc;have q22 : ∀ (w : World) (a : Option Addr) (n c n' c' : Nat), (binOp .eql 22 (.slice a n c) (.slice none n' c')).run Tryz.prog w = .ok (.bool a.isNone) w := fun w a n c n' c' => Lib.run_eql_slice_nil w _ _ a n c n' c' Tryz.underlying22;have H := Lib.hid h;clear h;cases A with
 | none =>
  have hn0 : n = 0 := by
   rcases Nat.eq_zero_or_pos n with h0 | h0;exact h0;obtain ⟨_, _, e, _⟩ := H.out.2 h0;cases e
  subst hn0;go_enter Tryz.func89, Tryz.ntmps89;go_wp2_with fail;go_ret;exact ⟨⟨_, rfl, none, 0, 0, rfl, ⟨H.out.1, fun h => absurd h (Nat.lt_irrefl 0)⟩, Nat.zero_le _⟩, Below.refl _ _⟩
 | some ad =>
  have HO := Lib.hid (xW w 74 2 w.heap.size w.heap.size rfl (Nat.le_refl _));have HB := Lib.hid ((Below.refl w.heap.size w).alloc (Nat.le_refl _) (.cells #[] 74));have HR := Lib.hid (Rd.more (Rd.below (B := min B w.heap.size) ⟨H.out.1, fun h => by
   obtain ⟨b, off, e, _, hc⟩ := H.out.2 h;obtain ⟨u, hu⟩ : ∃ u, (ah s)[0]? = some u := ⟨_, List.getElem?_eq_getElem (by have := H.out.1; omega)⟩;have hl := World.block_lt_of_cell? w _ (hc 0 u hu);exact ⟨b, off, e, by dsimp only at hl; omega, hc⟩⟩ (HB.out.mono (Nat.min_le_right _ _))) (Nat.le_refl _))
  go_enter Tryz.func89, Tryz.ntmps89;go_wp2_with (at_builtin; refine ax _ rfl (.tmp 5) (.tmp 6) 22 rfl w.heap.size 74 i0 _ 2 8 Tryz.underlying22 hi hz0 ko kZ rfl (by decide) _ _ _ rfl HO.out _ (some ad) n c (ah s) rfl HR.out (kR s) (by simp only [maxLen]; omega) (by omega) (by simp) ?_);intro v' w' aB;have ho := aB.own;obtain ⟨A2, c2, rfl, _⟩ := aT ho;have cE := Lib.hid (HB.out.trans (aB.below (by simp) HO.out));have HV := Lib.hid (show js w' (fun b => w.heap.size ≤ b) s (.slice A2 n c2) from ⟨A2, n, c2, rfl, fl.gN ho (fun b hb => (bM ho hb).1), by unfold maxLen; omega⟩);clear aB ho;go_wp2_with fail;go_ret;exact ⟨⟨_, rfl, HV.out⟩, cE.out⟩
end Go.Proofs.YthnhbcohfoodlaaGreatDoor
namespace Go.Proofs.YthnhbcohfoodlaaGreatDoor
open Go.RowKit Go.Maps
theorem nx {l : af} (h : cm l = 0) : l.length ≤ 200 := by
 unfold cm at h;by_cases h2 : 200 < l.length
 ·rw [if_pos h2] at h; cases h
 omega
theorem JR (mb nm : Nat) (LP : List ay) (A2 : Option Addr) (n2 c2 : Nat) (L : List ak) (w : World) (B : Nat) (hB : B ≤ w.heap.size) (hE : fo w (· < B) mb nm LP) (GZ : ∀ s set, fD LP s = some set → set.length ≤ 200) (hL : bF w B A2 n2 L) (hok : aM L = 0) :
    Calls Tryz.prog 160 #[.map (some mb), .slice A2 n2 c2] w fun e w' => It w' B w.heap.size (cj LP L) e ∧ Below w.heap.size w w' := by
 obtain ⟨i0, hi, hz0, ko, kZ⟩ := info_parts IV;obtain ⟨h20, hall⟩ := dN hok;have VU : n2 ≤ 20 := (by rw [← iE.len hL]; exact h20);have hmb := hE.lt;have bY := Lib.hid (iE.len hL);have HL := Lib.hid hL;have HA := Lib.hid hall;have HE := Lib.hid hE;have JW := Lib.hid GZ;clear hL hok h20 hall hE GZ;go_enter Tryz.func160, Tryz.ntmps160;go_wp2_with fail;go_loopw [6, 13] (Nq w B LP L n2) (fun _ i _ => n2 - (intOf i).toNat);(case atStart => exact ⟨0, [], Nat.zero_le _, rfl, rfl, kz.nil w B⟩);obtain ⟨k, ll, hk, rfl, bU, hst⟩ := hrel;have SM := Gf bU;have aa5 : ll.length ≤ k := (by rw [SM]; exact List.length_take_le _ _);clear SM;have hz := hst.2.size;by_cases hlt : k < n2
 ·obtain ⟨a, ha⟩ : ∃ z, L[k]? = some z := ⟨_, List.getElem?_eq_getElem (by rw [bY.out]; exact hlt)⟩;have hka := gR (HA.out a (List.mem_of_getElem? ha));obtain ⟨b, off, A', n', c', rfl, eD, f0, f1, f2, f3, gZ, hn', _, hnm⟩ := qh HL.out ha;have jQ : b < w.heap.size := (by omega);have d0 := (hst.2.cell (p := ⟨b, off + k * 4, none⟩) jQ).trans f0;have d1 := (hst.2.cell (p := ⟨b, off + k * 4 + 1, none⟩) jQ).trans f1;have d2 := (hst.2.cell (p := ⟨b, off + k * 4 + 2, none⟩) jQ).trans f2;have d3 := (hst.2.cell (p := ⟨b, off + k * 4 + 3, none⟩) jQ).trans f3;clear f0 f1 f2 f3;have An := Lib.hid gZ;have uM := Lib.hid (kz.alloc hst (.cells #[.int .i64 a.kind, .int .i32 a.rune, .slice A' n' c', .string a.name] 114));have tI := Lib.hid (au.new wr 114 #[.int .i64 a.kind, .int .i32 a.rune, .slice A' n' c', .string a.name]);have pg := Lib.hid bU;have oh := Lib.hid ha;clear gZ hn' bU hst;rcases hka with ⟨fW, hk2⟩ | ⟨fW, hk2⟩ | ⟨fW, hk2⟩
  ·have qR := Lib.hid (show tB LP a = some [(a.rune, a.rune)] by unfold tB; rw [if_pos fW]);have q1 : (a.kind == 1) = true := (by rw [fW]; rfl);clear fW hk2;have OA := kz.alloc uM.out (.cells #[.int .i32 a.rune, .int .i32 a.rune] 74);have VN := fl.new (w := wr.alloc (.cells #[.int .i64 a.kind, .int .i32 a.rune, .slice A' n' c', .string a.name] 114)) (X := Kh B w.heap.size u6) (n := 1) (sz := 2) 74 [.int .i32 a.rune, .int .i32 a.rune] rfl (by
    obtain ⟨⟨css, g1, g2, g3, g4⟩, g5⟩ := uM.out;exact ⟨.inr g5.size, uz g4 (.inr (Nat.le_refl _))⟩)
   rw [show (wr.alloc (.cells #[.int .i64 a.kind, .int .i32 a.rune, .slice A' n' c', .string a.name] 114)).heap.size = wr.heap.size + 1 by simp] at VN;have HU := Lib.hid (show js ((wr.alloc (.cells #[.int .i64 a.kind, .int .i32 a.rune, .slice A' n' c', .string a.name] 114)).alloc (.cells #[.int .i32 a.rune, .int .i32 a.rune] 74)) (Kh B w.heap.size u6) [(a.rune, a.rune)] (.slice (some ⟨wr.heap.size + 1, 0, none⟩) 1 1) from ⟨_, _, _, rfl, VN, by decide⟩);have Nz := Lib.hid OA;clear OA VN;obtain ⟨⟨css, g1, g2, g3, g4⟩, g5⟩ := Nz.out;have hN := Rd.new ((wr.alloc (.cells #[.int .i64 a.kind, .int .i32 a.rune, .slice A' n' c', .string a.name] 114)).alloc (.cells #[.int .i32 a.rune, .int .i32 a.rune] 74)) 22 1 1 [.slice (some ⟨wr.heap.size + 1, 0, none⟩) 1 1] rfl;rw [show ((wr.alloc (.cells #[.int .i64 a.kind, .int .i32 a.rune, .slice A' n' c', .string a.name] 114)).alloc (.cells #[.int .i32 a.rune, .int .i32 a.rune] 74)).heap.size = wr.heap.size + 1 + 1 by simp] at hN;have HN := Lib.hid hN;have HO := Lib.hid (World.ownsRow.alloc g4 (.cells #[.slice (some ⟨wr.heap.size + 1, 0, none⟩) 1 1] 22));have HZ := Lib.hid ((g5.alloc g5.size (.cells #[.slice (some ⟨wr.heap.size + 1, 0, none⟩) 1 1] 22)).size);have G1 := Lib.hid g1;have G2 := Lib.hid g2;have G3 := Lib.hid g3;have G4 := Lib.hid g4;have G5 := Lib.hid g5;clear g1 g2 g3 g4 g5 hN;go_wp2_with (at_builtin; refine ax _ rfl (.tmp 35) (.tmp 42) 119 rfl w.heap.size 22 i0 _ 1 24 Tryz.underlying119 hi hz0 ko kZ rfl (by decide) _ _ _ rfl HO.out _ (some ⟨wr.heap.size + 1 + 1, 0, none⟩) 1 1 [.slice (some ⟨wr.heap.size + 1, 0, none⟩) 1 1] rfl HN.out ?one1 (by simp only [maxLen]; omega) (by omega) HZ.out ?_);(case one1 => intro x hx; simp at hx; subst hx; rfl);intro v9 w9 aB
   have hM := Lib.hid (kz.push G1.out G2.out G3.out G4.out G5.out HU.out aB);clear aB;go_wp2_with fail;exact ⟨⟨k + 1, ll ++ [_], by omega, by go_num, oJ oh.out pg.out qR.out, hM.out⟩, by simp [intOf]; omega⟩
  ·have qR := Lib.hid (show tB LP a = some a.set by unfold tB; rw [fW, if_neg (by decide), if_pos rfl]);have q1 : (a.kind == 1) = false := (by rw [fW]; rfl);have q2 : (a.kind == 2) = true := (by rw [fW]; rfl);have yd := nx hk2;have hlen := kW.len An.out;have hn2 : n' ≤ 1000 := (by omega);clear fW hk2 hlen yd;go_wp2_with fail;refine (nN A' n' c' B a.set _ (Rd.below An.out (uM.out.2.mono hB)) hn2).mono ?_;rintro e wx ⟨⟨u, rfl, hu⟩, hb⟩;have Nz := Lib.hid (kz.below uM.out hb);have Oc := hu;obtain ⟨A7, n7, c7, rfl, _⟩ := Oc;have HU := Lib.hid (show js wx (Kh B w.heap.size u6) a.set (.slice A7 n7 c7) from js.keep (ag.refl (fun b hb => by
    have g := uM.out;obtain ⟨⟨css, g1, g2, g3, g4⟩, g5⟩ := g;exact ⟨.inr (Nat.le_trans g5.size hb), uz g4 (.inr hb)⟩)) hu)
   clear hu hb;obtain ⟨⟨css, g1, g2, g3, g4⟩, g5⟩ := Nz.out;have HN := Lib.hid (Rd.new wx 22 1 1 [(.slice A7 n7 c7)] rfl);have HO := Lib.hid (World.ownsRow.alloc g4 (.cells #[(.slice A7 n7 c7)] 22));have HZ := Lib.hid (Nat.le_trans g5.size (show wx.heap.size ≤ (wx.alloc (.cells #[(.slice A7 n7 c7)] 22)).heap.size by simp));have G1 := Lib.hid g1;have G2 := Lib.hid g2;have G3 := Lib.hid g3;have G4 := Lib.hid g4;have G5 := Lib.hid g5;clear g1 g2 g3 g4 g5;go_wp2_with (at_builtin; refine ax _ rfl (.tmp 46) (.tmp 50) 119 rfl w.heap.size 22 i0 _ 1 24 Tryz.underlying119 hi hz0 ko kZ rfl (by decide) _ _ _ rfl HO.out _ (some ⟨wx.heap.size, 0, none⟩) 1 1 [(.slice A7 n7 c7)] rfl HN.out ?one2 (by simp only [maxLen]; omega) (by omega) HZ.out ?_);(case one2 => intro x hx; simp at hx; subst hx; rfl);intro v9 w9 aB;have hM := Lib.hid (kz.push G1.out G2.out G3.out G4.out G5.out HU.out aB);clear aB;go_wp2_with fail;exact ⟨⟨k + 1, ll ++ [_], by omega, by go_num, oJ oh.out pg.out qR.out, hM.out⟩, by simp [intOf]; omega⟩
  have hsp : tB LP a = fD LP a.name := (by unfold tB; rw [fW, if_neg (by decide), if_neg (by decide)]);have q1 : (a.kind == 1) = false := (by rw [fW]; rfl);have q2 : (a.kind == 2) = false := (by rw [fW]; rfl);clear fW hk2;have Y4 := fo.keep (X' := (· < B)) (ag.below uM.out.2 (fun _ h _ => h)) (uM.out.2.block mb hmb) HE.out;obtain ⟨D, hD, _, kE⟩ := Y4;have kE := kE a.name;have HD := Lib.hid hD;clear hD;cases hlk : fD LP a.name with
  | none =>
   rw [hlk] at kE;have qR := Lib.hid (hsp.trans hlk);have qW := Lib.hid kE.1;have tu := Lib.hid kE.2;clear hsp hlk kE;go_wp2_with (at_lookup; refine mg rfl (.tmp 20) (.tmp 22) rfl mb nm D rfl HD.out a.name rfl hnm (.slice none 0 0) false qW.out tu.out ?_);go_ret2;rw [Dz oh.out qR.out];exact ⟨rfl, uM.out.2⟩
  | some s =>
   rw [hlk] at kE;obtain ⟨u, h1, h2, h3⟩ := kE;obtain ⟨A6, n6, c6, rfl, hrd, _⟩ := h3;have qR := Lib.hid (hsp.trans hlk);have qW := Lib.hid h1;have tu := Lib.hid h2;have yd := JW.out a.name s hlk;have Dc : Rd (wr.alloc (.cells #[.int .i64 a.kind, .int .i32 a.rune, .slice A' n' c', .string a.name] 114)) B 2 A6 n6 (ah s) := fl.rd hrd (fun _ h _ => h);have hlen := kW.len Dc;have hn2 : n6 ≤ 1000 := (by omega);have tT := Lib.hid Dc;clear hsp hlk h1 h2 hrd yd Dc hlen;go_wp2_with (at_lookup; refine mg rfl (.tmp 20) (.tmp 22) rfl mb nm D rfl HD.out a.name rfl hnm (.slice A6 n6 c6) true qW.out tu.out ?_);refine (nN A6 n6 c6 B s _ tT.out hn2).mono ?_;rintro e wx ⟨⟨u, rfl, hu⟩, hb⟩;have Nz := Lib.hid (kz.below uM.out hb);have Oc := hu;obtain ⟨A7, n7, c7, rfl, _⟩ := Oc;have HU := Lib.hid (show js wx (Kh B w.heap.size u6) s (.slice A7 n7 c7) from js.keep (ag.refl (fun b hb => by
    have g := uM.out;obtain ⟨⟨css, g1, g2, g3, g4⟩, g5⟩ := g;exact ⟨.inr (Nat.le_trans g5.size hb), uz g4 (.inr hb)⟩)) hu)
   clear hu hb;obtain ⟨⟨css, g1, g2, g3, g4⟩, g5⟩ := Nz.out;have HN := Lib.hid (Rd.new wx 22 1 1 [(.slice A7 n7 c7)] rfl);have HO := Lib.hid (World.ownsRow.alloc g4 (.cells #[(.slice A7 n7 c7)] 22));have HZ := Lib.hid (Nat.le_trans g5.size (show wx.heap.size ≤ (wx.alloc (.cells #[(.slice A7 n7 c7)] 22)).heap.size by simp));have G1 := Lib.hid g1;have G2 := Lib.hid g2;have G3 := Lib.hid g3;have G4 := Lib.hid g4;have G5 := Lib.hid g5;clear g1 g2 g3 g4 g5;go_wp2_with (at_builtin; refine ax _ rfl (.tmp 28) (.tmp 31) 119 rfl w.heap.size 22 i0 _ 1 24 Tryz.underlying119 hi hz0 ko kZ rfl (by decide) _ _ _ rfl HO.out _ (some ⟨wx.heap.size, 0, none⟩) 1 1 [(.slice A7 n7 c7)] rfl HN.out ?one3 (by simp only [maxLen]; omega) (by omega) HZ.out ?_);(case one3 => intro x hx; simp at hx; subst hx; rfl);intro v9 w9 aB;have hM := Lib.hid (kz.push G1.out G2.out G3.out G4.out G5.out HU.out aB);clear aB;go_wp2_with fail;exact ⟨⟨k + 1, ll ++ [_], by omega, by go_num, oJ oh.out pg.out qR.out, hM.out⟩, by simp [intOf]; omega⟩
 obtain rfl : k = n2 := (by omega);rw [List.take_of_length_le (by rw [bY.out]; omega)] at bU;have HG := Lib.hid bU;have HS := Lib.hid hst;clear bU hst;obtain ⟨AO, cO, rfl, _⟩ := HS.out.1.form;go_wp2_with fail;go_ret2;rw [HG.out];exact ⟨⟨_, rfl, kz.post HS.out (by unfold maxLen; omega)⟩, HS.out.2⟩
end Go.Proofs.YthnhbcohfoodlaaGreatDoor
namespace Go.Proofs.YthnhbcohfoodlaaGreatDoor
open Go.RowKit Go.Maps
theorem Ju : (Tryz.prog.info? 21).map (fun i => (i.zero, i.size, i.bytes)) = some (some (.int .i32 0), 1, 4) := by kernel_rfl
theorem yB {w : World} {B lo : Nat} {r : Option (List af)} {e : Ending} (h : It w B lo r e) :
    ∃ A n c b, e = .returned (.tuple #[.slice A n c, .bool b]) ∧ b = r.isSome ∧ ∀ ll, r = some ll → mw w (Fr B lo) ll (.slice A n c) := by
 cases r with
 | none => exact ⟨none, 0, 0, false, h, rfl, fun _ h => by cases h⟩
 | some ll =>
  obtain ⟨u, rfl, hu⟩ := h;have Oc := hu;obtain ⟨A, n, c, rfl, _⟩ := Oc;exact ⟨A, n, c, true, rfl, rfl, fun _ h => by cases h; exact hu⟩
abbrev iu : Array Value := #[.bool false, .bool false, .slice none 0 0, .slice none 0 0, .slice none 0 0, .slice none 0 0, .int .i64 0]
def xo (w : World) (tM tU : Array Value) (wx : World) : Prop :=
  au wx w.heap.size 96 tM ∧ au wx (w.heap.size + 1) 96 tU ∧ au wx (w.heap.size + 2) 121 iu ∧ Below w.heap.size w wx
theorem xo.made (w : World) (tM tU : Array Value) : xo w tM tU (((w.alloc (.cells tM 96)).alloc (.cells tU 96)).alloc (.cells iu 121)) := by
 refine ⟨au.alloc (au.alloc (au.new _ _ _) _) _, ?_, ?_, (((Below.refl _ _).alloc (Nat.le_refl _) _).alloc (by simp) _).alloc (by simp; omega) _⟩
 ·have := au.alloc (au.new (w.alloc (.cells tM 96)) 96 tU) (.cells iu 121);simpa using this
 have := au.new ((w.alloc (.cells tM 96)).alloc (.cells tU 96)) 121 iu;simpa using this
theorem xo.below {w wx w2 : World} {tM tU : Array Value} (h : xo w tM tU wx) (hb : Below wx.heap.size wx w2) : xo w tM tU w2 :=
  ⟨au.below h.1 hb h.1.lt, au.below h.2.1 hb h.2.1.lt, au.below h.2.2.1 hb h.2.2.1.lt, h.2.2.2.trans (hb.mono h.2.2.2.size)⟩
def DR (w : World) (B lo : Nat) (r : Option eB) (e : Ending) : Prop :=
  ∃ cs : List Value, cs.length = 7 ∧ e = .returned (.tuple #[.agg cs.toArray, .bool r.isSome]) ∧ (∀ u ∈ cs, u.oneCell' = true) ∧ ∀ rd, r = some rd → eJ w (Fr B lo) rd cs
theorem ID {L : List ak} {k : Nat} {a : ak} (h : L[k]? = some a) : (L.take (k + 1)).map (·.rune) = (L.take k).map (·.rune) ++ [a.rune] := by
 rw [List.take_add_one, h];simp
theorem qw (l : List ay) (f t : bk) : (eM l f t).isSome = ((cj l f.before).isSome && (cj l f.source).isSome && (cj l f.after).isSome) := by
 unfold eM;cases cj l f.before <;> cases cj l f.source <;> cases cj l f.after <;> rfl
theorem EC {l : List ay} {f t : bk} {rd : eB} (h : eM l f t = some rd) : ∃ a b c, cj l f.before = some a ∧ cj l f.source = some b ∧ cj l f.after = some c ∧
    rd = ⟨f.start, f.fin, a, b, c, t.source.map (·.rune), if t.aa < 0 then (t.source.length : Int) else t.aa⟩ := by
 unfold eM at h;cases h1 : cj l f.before with
 | none => rw [h1] at h; cases h
 | some a =>
  cases h2 : cj l f.source with
  | none => rw [h1, h2] at h; cases h
  | some b =>
   cases h3 : cj l f.after with
   | none => rw [h1, h2, h3] at h; cases h
   | some c =>
    rw [h1, h2, h3] at h;cases h;exact ⟨a, b, c, rfl, rfl, rfl, rfl⟩
abbrev GU (w : World) (g : Nat) (u0 u1 u2 u3 u4 u5 u6 : Value) : World :=
  ((((((w.setCell ⟨g, 0, none⟩ u0).setCell ⟨g, 1, none⟩ u1).setCell ⟨g, 2, none⟩ u2).setCell ⟨g, 3, none⟩ u3).setCell ⟨g, 4, none⟩ u4).setCell ⟨g, 5, none⟩ u5).setCell ⟨g, 6, none⟩ u6
theorem Mm {w : World} {X : Nat → Prop} {g : Nat} (h : ∀ b, X b → b ≠ g) (u0 u1 u2 u3 u4 u5 u6 : Value) : ag w X (GU w g u0 u1 u2 u3 u4 u5 u6) X := by
 have one : ∀ (w : World) (i : Nat) (u : Value), ag w X (w.setCell ⟨g, i, none⟩ u) X := fun w i u => ag.setCell u (fun b hb => h b hb) (fun _ h _ => h);exact ((((((one _ 0 u0).trans (one _ 1 u1)).trans (one _ 2 u2)).trans (one _ 3 u3)).trans (one _ 4 u4)).trans (one _ 5 u5)).trans (one _ 6 u6)
theorem yq {w w0 : World} {g B : Nat} (h : Below B w0 w) (hg : B ≤ g) (u0 u1 u2 u3 u4 u5 u6 : Value) : Below B w0 (GU w g u0 u1 u2 u3 u4 u5 u6) :=
  ((((((h.setCell hg _).setCell hg _).setCell hg _).setCell hg _).setCell hg _).setCell hg _).setCell hg _
end Go.Proofs.YthnhbcohfoodlaaGreatDoor
