/- OpenSpans + Parts + Item + Items + Side + SideMore + Told + SideWalk + PartP -/
import Derived.Test.YthnhbcohfoodlaaGreatDoorZt4
import Derived.Test.YthnhbcohfoodlaaGreatDoorZt8
import Derived.Test.YthnhbcohfoodlaaGreatDoorZt3
import Derived.Test.YthnhbcohfoodlaaGreatDoorZt6
namespace Go.Proofs.YthnhbcohfoodlaaGreatDoor
open Go.RowKit Go.ChangeShapes Go.WideShapes Go.ChangeAt
section
variable {H : Type} {enc : TypeId × Value → H} {w : World}
theorem trod_span {m : Nat} {cs : List Value} {y : DataW H × List MemPlace} (h : DataW.trod enc Tryz.prog w 0 (fun _ => true) true m 74 cs = some y) : ∃ z : Int × Int, cs = [.int .i32 z.1, .int .i32 z.2] := by
 have c1 : Tryz.prog.cellsOf 21 = 1 := by kernel_rfl
 have c2 : Tryz.prog.cellsOf 74 = 2 := by kernel_rfl
 obtain ⟨y0, y1, n, _, hl, h0, h1⟩ := trod_struct2 Tryz.underlying74 h
 dsimp only at h0 h1
 rw [c1] at h0 h1
 rw [c2] at hl
 obtain ⟨a, e0, _, _⟩ := DataW.trod_int Tryz.underlying21 h0
 obtain ⟨b, e1, _, _⟩ := DataW.trod_int Tryz.underlying21 h1
 match cs, hl with
 | [u, v], _ =>
   simp at e0 e1
   exact ⟨(a, b), by rw [e0, e1]⟩
theorem open_spans {fuel n c : Nat} {A : Option Addr} {x : DataW H × List MemPlace} (h : DataW.trod enc Tryz.prog w 0 (fun _ => true) true fuel 22 [.slice A n c] = some x) :
 n ≤ c ∧ c ≤ maxLen ∧ (∃ l, RdS w w.heap.size A n l) ∧ ((x.1 = .nil ∧ c = 0) ∨ ∃ elems spare, x.1 = .slice elems spare ∧ elems.length + spare.length = c) := by
 obtain ⟨h1, h2, l, css, hl, hc, hR, _, hrd, hx⟩ := open_list Tryz.underlying22 (sz := 2) (by kernel_rfl) (by decide) h (fun (z : Int × Int) cs => cs = [.int .i32 z.1, .int .i32 z.2]) (fun m cs y hy => trod_span hy)
 rw [flatten_map (fun z : Int × Int => [.int .i32 z.1, .int .i32 z.2]) l css (by omega) hR] at hrd
 exact ⟨h1, h2, ⟨l, hrd⟩, hx⟩
end
end Go.Proofs.YthnhbcohfoodlaaGreatDoor

namespace Go.Proofs.YthnhbcohfoodlaaGreatDoor
open Go.RowKit Go.ChangeShapes Go.WideShapes Go.ChangeAt
def RdL {α : Type} (R : α → List Value → Prop) (w : World) (B sz : Nat) (A : Option Addr) (n : Nat) (l : List α) : Prop :=
 ∃ css : List (List Value), l.length = n ∧ css.length = n ∧ (∀ (i : Nat) (a : α) (cs : List Value), l[i]? = some a → css[i]? = some cs → R a cs) ∧ (∀ cs ∈ css, cs.length = sz) ∧ Rd w B sz A n css.flatten
theorem RdL.len {α : Type} {R : α → List Value → Prop} {w : World} {B sz n : Nat} {A : Option Addr} {l : List α} (h : RdL R w B sz A n l) : l.length = n := by
 obtain ⟨_, h1, _⟩ := h
 exact h1
theorem RdL.at {α : Type} {R : α → List Value → Prop} {w : World} {B sz n : Nat} {A : Option Addr} {l : List α} (h : RdL R w B sz A n l) {k : Nat} {a : α} (hk : l[k]? = some a) :
 ∃ (b off : Nat) (cs : List Value), A = some ⟨b, off, none⟩ ∧ b < B ∧ R a cs ∧ ∀ j u, cs[j]? = some u → w.cell? ⟨b, off + k * sz + j, none⟩ = some u := by
 obtain ⟨css, h1, h2, h3, h4, h5, h6⟩ := h
 have hlt : k < l.length := (List.getElem?_eq_some_iff.1 hk).1
 obtain ⟨b, off, e, hb, hc⟩ := h6 (by omega)
 obtain ⟨cs, hcs⟩ : ∃ cs, css[k]? = some cs := ⟨_, List.getElem?_eq_getElem (by omega)⟩
 refine ⟨b, off, cs, e, hb, h3 k a cs hk hcs, fun j u hu => ?_⟩
 rw [Nat.add_assoc]
 exact hc _ _ (flatten_get h4 k cs hcs j u hu)
theorem RdL.weak {α : Type} {R R' : α → List Value → Prop} {w w' : World} {B B' sz n : Nat} {A : Option Addr} {l : List α} (h : RdL R w B sz A n l) (hR : ∀ a cs, R a cs → R' a cs) (hw : ∀ xs, Rd w B sz A n xs → Rd w' B' sz A n xs) : RdL R' w' B' sz A n l := by
 obtain ⟨css, h1, h2, h3, h4, h5⟩ := h
 exact ⟨css, h1, h2, fun i a cs ha hc => hR a cs (h3 i a cs ha hc), h4, hw _ h5⟩
structure ItemD where
 kind : Int
 rune : Int
 set : Spans
 name : ByteArray
structure SideD where
 start : Bool
 fin : Bool
 before : List ItemD
 source : List ItemD
 after : List ItemD
 cursor : Int
structure PartD where
 kind : Int
 name : ByteArray
 set : Spans
 dir : Int
 left : SideD
 right : SideD
def i64R (n : Int) : Prop := -9223372036854775808 ≤ n ∧ n ≤ 9223372036854775807
def ItemC (w : World) (B : Nat) (a : ItemD) (cs : List Value) : Prop :=
 ∃ A n c, cs = [.int .i64 a.kind, .int .i32 a.rune, .slice A n c, .string a.name] ∧ RdS w B A n a.set ∧ n ≤ maxLen ∧ i64R a.kind ∧ a.name.size ≤ maxLen
def RdIt (w : World) (B : Nat) (A : Option Addr) (n : Nat) (l : List ItemD) : Prop := RdL (ItemC w B) w B 4 A n l
def SideC (w : World) (B : Nat) (s : SideD) (cs : List Value) : Prop :=
 ∃ A1 n1 c1 A2 n2 c2 A3 n3 c3, cs = [.bool s.start, .bool s.fin, .slice A1 n1 c1, .slice A2 n2 c2, .slice A3 n3 c3, .int .i64 s.cursor] ∧
  RdIt w B A1 n1 s.before ∧ RdIt w B A2 n2 s.source ∧ RdIt w B A3 n3 s.after ∧ n1 ≤ maxLen ∧ n2 ≤ maxLen ∧ n3 ≤ maxLen ∧ i64R s.cursor
def PartC (w : World) (B : Nat) (p : PartD) (cs : List Value) : Prop :=
 ∃ A n c ls rs, cs = [.int .i64 p.kind, .string p.name, .slice A n c, .int .i64 p.dir] ++ ls ++ rs ∧ RdS w B A n p.set ∧ n ≤ maxLen ∧ SideC w B p.left ls ∧ SideC w B p.right rs ∧ i64R p.kind ∧ i64R p.dir ∧ p.name.size ≤ maxLen
def RdP (w : World) (B : Nat) (A : Option Addr) (n : Nat) (l : List PartD) : Prop := RdL (PartC w B) w B 16 A n l
section
variable {w w' : World} {B B' : Nat}
theorem ItemC.weak {a : ItemD} {cs : List Value} (hw : ∀ A sz n xs, Rd w B sz A n xs → Rd w' B' sz A n xs) (h : ItemC w B a cs) : ItemC w' B' a cs := by
 obtain ⟨A, n, c, e, h1, h2⟩ := h
 exact ⟨A, n, c, e, hw _ _ _ _ h1, h2⟩
theorem RdIt.weak {A : Option Addr} {n : Nat} {l : List ItemD} (hw : ∀ A sz n xs, Rd w B sz A n xs → Rd w' B' sz A n xs) (h : RdIt w B A n l) : RdIt w' B' A n l :=
 RdL.weak h (fun _ _ => ItemC.weak hw) (hw _ _ _)
theorem SideC.weak {s : SideD} {cs : List Value} (hw : ∀ A sz n xs, Rd w B sz A n xs → Rd w' B' sz A n xs) (h : SideC w B s cs) : SideC w' B' s cs := by
 obtain ⟨A1, n1, c1, A2, n2, c2, A3, n3, c3, e, h1, h2, h3, h4⟩ := h
 exact ⟨A1, n1, c1, A2, n2, c2, A3, n3, c3, e, RdIt.weak hw h1, RdIt.weak hw h2, RdIt.weak hw h3, h4⟩
theorem PartC.weak {p : PartD} {cs : List Value} (hw : ∀ A sz n xs, Rd w B sz A n xs → Rd w' B' sz A n xs) (h : PartC w B p cs) : PartC w' B' p cs := by
 obtain ⟨A, n, c, ls, rs, e, h1, h2, h3, h4, h5⟩ := h
 exact ⟨A, n, c, ls, rs, e, hw _ _ _ _ h1, h2, SideC.weak hw h3, SideC.weak hw h4, h5⟩
theorem RdP.weak {A : Option Addr} {n : Nat} {l : List PartD} (hw : ∀ A sz n xs, Rd w B sz A n xs → Rd w' B' sz A n xs) (h : RdP w B A n l) : RdP w' B' A n l :=
 RdL.weak h (fun _ _ => PartC.weak hw) (hw _ _ _)
theorem weak_of (hb : Below B w w') (hB : B ≤ B') : ∀ A sz n xs, Rd w B sz A n xs → Rd w' B' sz A n xs := fun _ _ _ _ h => Rd.more (Rd.below h hb) hB
end
end Go.Proofs.YthnhbcohfoodlaaGreatDoor

namespace Go.Proofs.YthnhbcohfoodlaaGreatDoor
open Go.RowKit
def itemP (a : ItemD) : Int :=
 if a.kind = 1 then (if rightB a.rune = true then 0 else 3) else if a.kind = 2 then wrongP a.set else if a.kind = 3 then (if namedP a.name = true then 0 else 7) else 1
def itemV (a : ItemD) (A : Option Addr) (n c : Nat) : Value := .agg #[.int .i64 a.kind, .int .i32 a.rune, .slice A n c, .string a.name]
theorem rds_alloc {w : World} {A : Option Addr} {n : Nat} {l : Spans} (h : RdS w w.heap.size A n l) (o : Obj) : RdS (w.alloc o) (w.alloc o).heap.size A n l :=
 weak_of ((Below.refl _ _).alloc (Nat.le_refl _) o) (by simp) _ _ _ _ h
set_option maxRecDepth 100000 in
set_option maxHeartbeats 800000 in
theorem rulesyn_item (a : ItemD) (A : Option Addr) (n c : Nat) (w : World) (hn : n ≤ 9223372036854775807) (hs : RdS w w.heap.size A n a.set) :
 Calls Tryz.prog 157 #[itemV a A n c] w fun e w' => e = .returned (.int .i64 (itemP a)) ∧ Below w.heap.size w w' := by
 obtain ⟨kind, rune, set, name⟩ := a
 have hbA : ∀ o, Below w.heap.size w (w.alloc o) := fun o => (Below.refl _ _).alloc (Nat.le_refl _) o
 have HS := Lib.hid (rds_alloc hs)
 have HB := Lib.hid hbA
 clear hs hbA
 unfold itemV itemP
 dsimp only
 by_cases h1 : kind = 1
 ·subst h1
  rw [if_pos rfl]
  cases hr : rightB rune
  all_goals
   go_enter Tryz.func157, Tryz.ntmps157
   go_wp2_with (go_at_call 87; refine (runes_right _ _).mono ?_; rintro e w' ⟨rfl, rfl⟩; rw [hr])
   go_ret
   exact ⟨rfl, HB.out _⟩
 by_cases h2 : kind = 2
 ·subst h2
  rw [if_neg h1, if_pos rfl]
  go_enter Tryz.func157, Tryz.ntmps157
  go_wp2_with fail
  refine (sets_wrong A n c set _ hn (HS.out _)).mono ?_
  rintro e w' ⟨rfl, hb⟩
  go_wp2_with fail
  go_ret
  exact ⟨rfl, (HB.out _).trans (hb.mono (by simp))⟩
 have e1 : (kind == 1) = false := by simpa using h1
 have e2 : (kind == 2) = false := by simpa using h2
 by_cases h3 : kind = 3
 ·subst h3
  rw [if_neg h1, if_neg h2, if_pos rfl]
  cases hr : namedP name
  all_goals
   go_enter Tryz.func157, Tryz.ntmps157
   go_wp2_with (go_at_call 24; refine (rulesyn_named _ _).mono ?_; rintro e w' ⟨rfl, rfl⟩; rw [hr])
   go_ret
   exact ⟨rfl, HB.out _⟩
 have e3 : (kind == 3) = false := by simpa using h3
 rw [if_neg h1, if_neg h2, if_neg h3]
 clear h1 h2 h3
 go_enter Tryz.func157, Tryz.ntmps157
 go_wp2_with fail
 go_ret
 exact ⟨rfl, HB.out _⟩
end Go.Proofs.YthnhbcohfoodlaaGreatDoor

namespace Go.Proofs.YthnhbcohfoodlaaGreatDoor
open Go.RowKit
def itemsGo : List ItemD → Int
 | [] => 0
 | a :: r => if itemP a = 0 then itemsGo r else itemP a
def itemsP (l : List ItemD) : Int := if 20 < l.length then 5 else itemsGo l
theorem item_at {w : World} {B n : Nat} {A : Option Addr} {l : List ItemD} (h : RdIt w B A n l) {k : Nat} {a : ItemD} (hk : l[k]? = some a) :
 ∃ (b off : Nat) (A' : Option Addr) (n' c' : Nat), A = some ⟨b, off, none⟩ ∧ b < B ∧ w.cell? ⟨b, off + k * 4, none⟩ = some (.int .i64 a.kind) ∧ w.cell? ⟨b, off + k * 4 + 1, none⟩ = some (.int .i32 a.rune) ∧
  w.cell? ⟨b, off + k * 4 + 2, none⟩ = some (.slice A' n' c') ∧ w.cell? ⟨b, off + k * 4 + 3, none⟩ = some (.string a.name) ∧ RdS w B A' n' a.set ∧ n' ≤ maxLen ∧ i64R a.kind ∧ a.name.size ≤ maxLen := by
 obtain ⟨b, off, cs, e, hb, ⟨A', n', c', hcs, h1, h2, h3, h4⟩, hc⟩ := RdL.at h hk
 subst hcs
 exact ⟨b, off, A', n', c', e, hb, hc 0 _ rfl, hc 1 _ rfl, hc 2 _ rfl, hc 3 _ rfl, h1, h2, h3, h4⟩
def ItRel (W : World) (l : List ItemD) (n : Nat) (i : Value) (wr : World) : Prop :=
 ∃ k : Nat, k ≤ n ∧ i = .int .i64 k ∧ itemsGo l = itemsGo (l.drop k) ∧ Below W.heap.size W wr
end Go.Proofs.YthnhbcohfoodlaaGreatDoor

namespace Go.Proofs.YthnhbcohfoodlaaGreatDoor
open Go.RowKit
def itemsAll : List (List ItemD) → Int
 | [] => 0
 | l :: r => if itemsP l = 0 then itemsAll r else itemsP l
def sideP (s : SideD) (must : Bool) : Int :=
 if itemsAll [s.before, s.source, s.after] = 0 then
  (if s.cursor < -1 ∨ (s.source.length : Int) < s.cursor then 3 else if must = true ∧ s.source.length = 0 then 6 else 0)
 else itemsAll [s.before, s.source, s.after]
def tellsB (l : List ItemD) : Bool := l.all fun a => a.kind == 1
def aroundB (s : SideD) : Bool := s.start || s.fin || decide (0 < s.before.length) || decide (0 < s.after.length)
theorem items_small {l : List ItemD} (h : itemsP l = 0) : l.length ≤ 20 := by
 unfold itemsP at h
 by_cases h1 : 20 < l.length
 ·rw [if_pos h1] at h; cases h
 ·omega
theorem rdit_alloc {w : World} {A : Option Addr} {n : Nat} {l : List ItemD} (h : RdIt w w.heap.size A n l) (o : Obj) : RdIt (w.alloc o) (w.alloc o).heap.size A n l :=
 RdIt.weak (weak_of ((Below.refl _ _).alloc (Nat.le_refl _) o) (by simp)) h
theorem rdit_below {w w' : World} {A : Option Addr} {n : Nat} {l : List ItemD} (h : RdIt w w.heap.size A n l) (hb : Below w.heap.size w w') : RdIt w' w'.heap.size A n l :=
 RdIt.weak (weak_of hb hb.size) h
end Go.Proofs.YthnhbcohfoodlaaGreatDoor

namespace Go.Proofs.YthnhbcohfoodlaaGreatDoor
open Go.RowKit
theorem plain_cons (a : ItemD) (l : List ItemD) : tellsB (a :: l) = ((a.kind == 1) && tellsB l) := rfl
def PlRel (W : World) (l : List ItemD) (n : Nat) (i : Value) (wr : World) : Prop :=
 ∃ k : Nat, k ≤ n ∧ i = .int .i64 k ∧ tellsB l = tellsB (l.drop k) ∧ Below W.heap.size W wr
set_option maxHeartbeats 1600000 in
theorem rulesyn_bare (s : SideD) (A1 A2 A3 : Option Addr) (n1 n2 n3 c1 c2 c3 : Nat) (w : World) (h1 : s.before.length = n1) (h3 : s.after.length = n3) (m1 : n1 ≤ 20) (m3 : n3 ≤ 20) :
 Calls Tryz.prog 120 #[.agg #[.bool s.start, .bool s.fin, .slice A1 n1 c1, .slice A2 n2 c2, .slice A3 n3 c3, .int .i64 s.cursor]] w fun e w' => e = .returned (.bool (!aroundB s)) ∧ Below w.heap.size w w' := by
 have hv : aroundB s = (s.start || s.fin || decide (0 < n1) || decide (0 < n3)) := by unfold aroundB; rw [h1, h3]
 rw [hv]
 clear hv h1 h3
 obtain ⟨start, fin, before, l, after, cursor⟩ := s
 dsimp only
 cases start <;> cases fin
 ·go_enter Tryz.func120, Tryz.ntmps120
  go_wp2_with fail
  go_ret
  exact ⟨ret_bool (by rw [Bool.eq_iff_iff]; simp; omega), (Below.refl _ _).alloc (Nat.le_refl _) _⟩
 all_goals
  go_enter Tryz.func120, Tryz.ntmps120
  go_wp2_with fail
  go_ret
  exact ⟨ret_bool (by simp), (Below.refl _ _).alloc (Nat.le_refl _) _⟩
theorem told_one (a : ItemD) (A : Option Addr) (n c : Nat) (w : World) :
 Calls Tryz.prog 159 #[.agg #[.int .i64 a.kind, .int .i32 a.rune, .slice A n c, .string a.name]] w fun e w' => e = .returned (.bool (a.kind != 1)) ∧ Below w.heap.size w w' := by
 go_enter Tryz.func159, Tryz.ntmps159
 go_wp2_with fail
 go_ret
 exact ⟨rfl, (Below.refl _ _).alloc (Nat.le_refl _) _⟩
end Go.Proofs.YthnhbcohfoodlaaGreatDoor

namespace Go.Proofs.YthnhbcohfoodlaaGreatDoor
open Go.RowKit
set_option maxRecDepth 100000 in
set_option maxHeartbeats 1600000 in
theorem told_index (A : Option Addr) (n c : Nat) (l : List ItemD) (fv : Value) (hfv : fv = .func (.func 159) #[] #[]) (w : World) (hl : RdIt w w.heap.size A n l) (m : n ≤ maxLen) :
 Calls Tryz.prog 185 #[.slice A n c, fv] w fun e w' => (∃ z : Int, e = .returned (.int .i64 z) ∧ (decide (0 ≤ z) = !tellsB l)) ∧ Below w.heap.size w w' := by
 subst hfv
 have HLEN := Lib.hid (RdL.len hl)
 have HL := Lib.hid hl
 have hn2 : n ≤ 9223372036854775807 := by unfold maxLen at m; omega
 clear hl m
 go_enter Tryz.func185, Tryz.ntmps185
 go_wp2_with fail
 go_loopw [8] (PlRel w l n) (fun i _ => n - (intOf i).toNat)
 case atStart => exact ⟨0, Nat.zero_le _, rfl, rfl, Below.refl _ _⟩
 case round =>
  obtain ⟨k, hk, rfl, hgo, hb⟩ := hrel
  have hz := hb.size
  by_cases hlt : k < n
  ·obtain ⟨a, ha⟩ : ∃ z, l[k]? = some z := ⟨_, List.getElem?_eq_getElem (by rw [HLEN.out]; exact hlt)⟩
   rw [drop_at ha, plain_cons] at hgo
   obtain ⟨b, off, A', n', c', rfl, hbb, c0, c1', c2', c3', _, _, _, _⟩ := item_at HL.out ha
   have d0 := (hb.cell (p := ⟨b, off + k * 4, none⟩) hbb).trans c0
   have d1 := (hb.cell (p := ⟨b, off + k * 4 + 1, none⟩) hbb).trans c1'
   have d2 := (hb.cell (p := ⟨b, off + k * 4 + 2, none⟩) hbb).trans c2'
   have d3 := (hb.cell (p := ⟨b, off + k * 4 + 3, none⟩) hbb).trans c3'
   have HT := Lib.hid (told_one a A' n' c' wr)
   clear c0 c1' c2' c3'
   by_cases hk1 : a.kind = 1
   ·have HG := Lib.hid (hgo.trans (show (a.kind == 1 && tellsB (l.drop (k + 1))) = tellsB (l.drop (k + 1)) by simp [hk1]))
    have hk2 : (a.kind != 1) = false := by simpa using hk1
    clear hgo hk1
    go_wp2_with fail
    refine HT.out.mono ?_
    rintro e w2 ⟨rfl, hb2⟩
    have hb3 := hb.trans (hb2.mono hz)
    rw [hk2]
    clear hb2
    go_wp2_with fail
    exact ⟨⟨k + 1, by omega, by go_num, HG.out, hb3⟩, by simp [intOf]; omega⟩
   ·have HG := Lib.hid (hgo.trans (show (a.kind == 1 && tellsB (l.drop (k + 1))) = false by simp [hk1]))
    have hk2 : (a.kind != 1) = true := by simpa using hk1
    clear hgo hk1
    go_wp2_with fail
    refine HT.out.mono ?_
    rintro e w2 ⟨rfl, hb2⟩
    have hb3 := hb.trans (hb2.mono hz)
    rw [hk2]
    clear hb2
    go_wp2_with fail
    go_ret
    exact ⟨⟨_, rfl, by rw [HG.out]; simp⟩, hb3⟩
  ·obtain rfl : k = n := by omega
   rw [List.drop_of_length_le (by rw [HLEN.out]; omega)] at hgo
   have HG := Lib.hid (hgo.trans (show tellsB [] = true from rfl))
   clear hgo
   go_wp2_with fail
   go_ret
   exact ⟨⟨_, rfl, by rw [HG.out]; simp⟩, hb⟩
set_option maxRecDepth 100000 in
theorem told_has (A : Option Addr) (n c : Nat) (l : List ItemD) (fv : Value) (hfv : fv = .func (.func 159) #[] #[]) (w : World) (hl : RdIt w w.heap.size A n l) (m : n ≤ maxLen) :
 Calls Tryz.prog 158 #[.slice A n c, fv] w fun e w' => e = .returned (.bool (!tellsB l)) ∧ Below w.heap.size w w' := by
 have H := Lib.hid (told_index A n c l fv hfv w hl m)
 clear hl m hfv
 go_enter Tryz.func158, Tryz.ntmps158
 go_wp2_with fail
 refine H.out.mono ?_
 rintro e w2 ⟨⟨z, rfl, hz⟩, hb⟩
 have HZ := Lib.hid hz
 clear hz
 go_wp2_with fail
 go_ret
 exact ⟨ret_bool HZ.out, hb⟩
theorem rulesyn_told (s : SideD) (A1 A2 A3 : Option Addr) (n1 n2 n3 c1 c2 c3 : Nat) (w : World) (h2 : RdIt w w.heap.size A2 n2 s.source) (m2 : n2 ≤ maxLen) :
 Calls Tryz.prog 119 #[.agg #[.bool s.start, .bool s.fin, .slice A1 n1 c1, .slice A2 n2 c2, .slice A3 n3 c3, .int .i64 s.cursor]] w fun e w' => e = .returned (.bool (tellsB s.source)) ∧ Below w.heap.size w w' := by
 obtain ⟨start, fin, before, l, after, cursor⟩ := s
 dsimp only at h2 ⊢
 have H := Lib.hid (fun o => told_has A2 n2 c2 l _ rfl (w.alloc o) (rdit_alloc h2 o) m2)
 have HB := Lib.hid (fun o => (Below.refl w.heap.size w).alloc (Nat.le_refl _) o)
 clear h2 m2
 go_enter Tryz.func119, Tryz.ntmps119
 go_wp2_with fail
 refine (H.out _).mono ?_
 rintro e w2 ⟨rfl, hb⟩
 have hb2 := (HB.out _).trans (hb.mono (by simp))
 clear hb
 go_wp2_with fail
 go_ret
 exact ⟨ret_bool (by simp), hb2⟩
end Go.Proofs.YthnhbcohfoodlaaGreatDoor

namespace Go.Proofs.YthnhbcohfoodlaaGreatDoor
open Go.RowKit
def SdRel (W : World) (s : SideD) (i : Value) (wr : World) : Prop :=
 ∃ j : Nat, j ≤ 3 ∧ i = .int .i64 j ∧ itemsAll [s.before, s.source, s.after] = itemsAll ([s.before, s.source, s.after].drop j) ∧ Below W.heap.size W wr
theorem all_cons (l : List ItemD) (r : List (List ItemD)) : itemsAll (l :: r) = if itemsP l = 0 then itemsAll r else itemsP l := rfl
theorem side_pick (s : SideD) (W : World) (A1 A2 A3 : Option Addr) (n1 n2 n3 c1 c2 c3 : Nat) (h1 : RdIt W W.heap.size A1 n1 s.before) (h2 : RdIt W W.heap.size A2 n2 s.source) (h3 : RdIt W W.heap.size A3 n3 s.after) (m1 : n1 ≤ maxLen) (m2 : n2 ≤ maxLen) (m3 : n3 ≤ maxLen) (j : Nat) (hj : j < 3) :
 ∃ (A : Option Addr) (n c : Nat) (l : List ItemD), (#[.slice A1 n1 c1, .slice A2 n2 c2, .slice A3 n3 c3] : Array Value)[j]? = some (.slice A n c) ∧ RdIt W W.heap.size A n l ∧ n ≤ maxLen ∧ [s.before, s.source, s.after].drop j = l :: [s.before, s.source, s.after].drop (j + 1) := by
 match j, hj with
 | 0, _ => exact ⟨A1, n1, c1, s.before, rfl, h1, m1, rfl⟩
 | 1, _ => exact ⟨A2, n2, c2, s.source, rfl, h2, m2, rfl⟩
 | 2, _ => exact ⟨A3, n3, c3, s.after, rfl, h3, m3, rfl⟩
set_option maxRecDepth 100000 in
set_option maxHeartbeats 3200000 in
theorem rulesyn_side (s : SideD) (must : Bool) (A1 A2 A3 : Option Addr) (n1 n2 n3 c1 c2 c3 : Nat) (w : World) (h1 : RdIt w w.heap.size A1 n1 s.before) (h2 : RdIt w w.heap.size A2 n2 s.source) (h3 : RdIt w w.heap.size A3 n3 s.after) (m1 : n1 ≤ maxLen) (m2 : n2 ≤ maxLen) (m3 : n3 ≤ maxLen) :
 Calls Tryz.prog 118 #[.agg #[.bool s.start, .bool s.fin, .slice A1 n1 c1, .slice A2 n2 c2, .slice A3 n3 c3, .int .i64 s.cursor], .bool must] w fun e w' => e = .returned (.int .i64 (sideP s must)) ∧ Below w.heap.size w w' := by
 have hl2 := RdL.len h2
 generalize hcs : (#[.bool s.start, .bool s.fin, .slice A1 n1 c1, .slice A2 n2 c2, .slice A3 n3 c3, .int .i64 s.cursor] : Array Value) = cs
 have hb1 : Below w.heap.size w (w.alloc (.cells cs 96)) := (Below.refl _ _).alloc (Nat.le_refl _) _
 have hb2 : Below w.heap.size w ((w.alloc (.cells cs 96)).alloc (.cells #[.slice A1 n1 c1, .slice A2 n2 c2, .slice A3 n3 c3] 94)) := hb1.alloc hb1.size _
 have hk1 : Blk ((w.alloc (.cells cs 96)).alloc (.cells #[.slice A1 n1 c1, .slice A2 n2 c2, .slice A3 n3 c3] 94)) w.heap.size 96 cs := (Blk.new _ _ _).alloc _
 have hk2 : Blk ((w.alloc (.cells cs 96)).alloc (.cells #[.slice A1 n1 c1, .slice A2 n2 c2, .slice A3 n3 c3] 94)) (w.heap.size + 1) 94 #[.slice A1 n1 c1, .slice A2 n2 c2, .slice A3 n3 c3] := by
  have := Blk.new (w.alloc (.cells cs 96)) 94 #[.slice A1 n1 c1, .slice A2 n2 c2, .slice A3 n3 c3]
  simpa using this
 have HPK := Lib.hid (side_pick s _ A1 A2 A3 n1 n2 n3 c1 c2 c3 (rdit_below h1 hb2) (rdit_below h2 hb2) (rdit_below h3 hb2) m1 m2 m3)
 have hm2 : n2 ≤ 9223372036854775807 := by unfold maxLen at m2; omega
 have HB := Lib.hid hb2
 have HK1 := Lib.hid hk1
 have HK2 := Lib.hid hk2
 clear h1 h2 h3 m1 m2 m3 hb1 hb2 hk1 hk2
 subst hcs
 go_enter Tryz.func118, Tryz.ntmps118
 go_wp2_with fail
 generalize hW : ((w.alloc (.cells #[.bool s.start, .bool s.fin, .slice A1 n1 c1, .slice A2 n2 c2, .slice A3 n3 c3, .int .i64 s.cursor] 96)).alloc (.cells #[.slice A1 n1 c1, .slice A2 n2 c2, .slice A3 n3 c3] 94)) = W at *
 clear hW
 go_loopw [18] (SdRel W s) (fun i _ => 3 - (intOf i).toNat)
 case atStart => exact ⟨0, by omega, rfl, rfl, Below.refl _ _⟩
 case round =>
  obtain ⟨j, hj, rfl, hall, hb⟩ := hrel
  have hz := hb.size
  by_cases hj3 : j < 3
  ·obtain ⟨A, n, c, l, hc, hl, hm, hd⟩ := HPK.out j hj3
   rw [hd, all_cons l] at hall
   have dj : wr.cell? ⟨w.heap.size + 1, j, none⟩ = some (.slice A n c) := by
    rw [(Blk.below HK2.out hb HK2.out.lt).cell j]
    exact hc
   have ht : decide ((j : Int) < 3) = true := decide_eq_true (by omega)
   have HLEN := Lib.hid (RdL.len hl)
   have HL := Lib.hid hl
   have hn : n ≤ 9223372036854775807 := by unfold maxLen at hm; omega
   clear hl hc hd hm
   by_cases h20 : 20 < n
   ·have hl5 : itemsP l = 5 := by unfold itemsP; rw [if_pos (by rw [HLEN.out]; exact h20)]
    rw [if_neg (by rw [hl5]; decide), hl5] at hall
    have HV := Lib.hid (show sideP s must = 5 by unfold sideP; rw [hall]; rfl)
    clear hall hl5
    go_wp2_with fail
    go_ret
    rw [HV.out]
    exact ⟨rfl, HB.out.trans (hb.mono HB.out.size)⟩
   ·have hlg : itemsP l = itemsGo l := by unfold itemsP; rw [if_neg (by rw [HLEN.out]; exact h20)]
    rw [hlg] at hall
    have HA := Lib.hid hall
    clear hall hlg
    go_wp2_with fail
    go_loopw [27] (ItRel W l n) (fun i _ => n - (intOf i).toNat)
    case atStart => exact ⟨0, Nat.zero_le _, rfl, rfl, hb⟩
    case round =>
     clear hb hz
     obtain ⟨k, hk, rfl, hgo, hb⟩ := hrel
     have hz := hb.size
     by_cases hlt : k < n
     ·obtain ⟨a, ha⟩ : ∃ z, l[k]? = some z := ⟨_, List.getElem?_eq_getElem (by rw [HLEN.out]; exact hlt)⟩
      rw [drop_at ha, itemsGo] at hgo
      obtain ⟨b, off, A', n', c', rfl, hbb, d0, d1, d2, d3, hset, hn', _, hnm⟩ := item_at HL.out ha
      have d0 := (hb.cell (p := ⟨b, off + k * 4, none⟩) hbb).trans d0
      have d1 := (hb.cell (p := ⟨b, off + k * 4 + 1, none⟩) hbb).trans d1
      have d2 := (hb.cell (p := ⟨b, off + k * 4 + 2, none⟩) hbb).trans d2
      have d3 := (hb.cell (p := ⟨b, off + k * 4 + 3, none⟩) hbb).trans d3
      have hb1 := fun o => hb.alloc hz o
      have HI := Lib.hid (fun o => rulesyn_item a A' n' c' (World.alloc _ o) (by unfold maxLen at hn'; omega) (Rd.more (Rd.below hset (hb1 o)) (by simp; omega)))
      have HB1 := Lib.hid hb1
      clear hset hb1 hnm hn'
      unfold itemV at HI
      by_cases hi : itemP a = 0
      ·rw [if_pos hi] at hgo
       have HG := Lib.hid hgo
       clear hgo
       go_wp2_with fail
       refine (HI.out _).mono ?_
       rintro e w2 ⟨rfl, hb2⟩
       rw [hi]
       have hb3 := (HB1.out _).trans (hb2.mono (by simp; omega))
       have HB3 := Lib.hid hb3
       clear hb2 hb3
       go_wp2_with fail
       exact ⟨⟨k + 1, by omega, by go_num, HG.out, HB3.out⟩, by simp [intOf]; omega⟩
      ·rw [if_neg hi] at hgo
       have hi2 : (itemP a != 0) = true := by simpa using hi
       have hA2 := HA.out
       rw [hgo, if_neg hi] at hA2
       have HV := Lib.hid (show sideP s must = itemP a by unfold sideP; rw [hA2, if_neg hi])
       clear hgo hi hA2
       go_wp2_with fail
       refine (HI.out _).mono ?_
       rintro e w2 ⟨rfl, hb2⟩
       have hb3 := (HB1.out _).trans (hb2.mono (by simp; omega))
       have HB3 := Lib.hid hb3
       clear hb2 hb3
       go_wp2_with fail
       go_ret
       rw [HV.out]
       exact ⟨rfl, HB.out.trans (HB3.out.mono HB.out.size)⟩
     ·obtain rfl : k = n := by omega
      rw [List.drop_of_length_le (by rw [HLEN.out]; omega)] at hgo
      have hA2 := HA.out
      rw [hgo, if_pos (show itemsGo [] = 0 from rfl)] at hA2
      have HG := Lib.hid hA2
      clear hgo hA2
      go_wp2_with fail
      exact ⟨⟨j + 1, by omega, by go_num, HG.out, hb⟩, by simp [intOf]; omega⟩
  ·obtain rfl : j = 3 := by omega
   have ha0 : itemsAll [s.before, s.source, s.after] = 0 := hall
   have hbx := Blk.below HK1.out hb HK1.out.lt
   have d3 : wr.cell? ⟨w.heap.size, 3, none⟩ = some (.slice A2 n2 c2) := hbx.cell 3
   have d5 : wr.cell? ⟨w.heap.size, 5, none⟩ = some (.int .i64 s.cursor) := hbx.cell 5
   have hb0 := HB.out.trans (hb.mono HB.out.size)
   have HS := Lib.hid (show sideP s must = if s.cursor < -1 ∨ (n2 : Int) < s.cursor then 3 else if must = true ∧ n2 = 0 then 6 else 0 by unfold sideP; rw [if_pos ha0, hl2])
   clear hall ha0 hbx hl2
   have HB0 := Lib.hid hb0
   clear hb0
   by_cases hc : s.cursor < -1 ∨ (n2 : Int) < s.cursor
   ·have HV := Lib.hid (show sideP s must = 3 by rw [HS.out, if_pos hc])
    rcases (show s.cursor < -1 ∨ (-1 ≤ s.cursor ∧ (n2 : Int) < s.cursor) by omega) with h | ⟨h, h'⟩
    all_goals
     clear hc
     go_wp2_with fail
     go_ret
     rw [HV.out]
     exact ⟨rfl, HB0.out⟩
   ·have hc1 : -1 ≤ s.cursor := by omega
    have hc2 : s.cursor ≤ n2 := by omega
    cases hmust : must
    ·have HV := Lib.hid (show sideP s false = 0 by rw [← hmust, HS.out, if_neg hc, hmust]; simp)
     subst hmust
     clear hc
     go_wp2_with fail
     go_ret
     rw [HV.out]
     exact ⟨rfl, HB0.out⟩
    ·subst hmust
     by_cases h0 : n2 = 0
     ·have HV := Lib.hid (show sideP s true = 6 by rw [HS.out, if_neg hc, h0]; simp)
      have hz2 : ((n2 : Int) == 0) = true := by simp; omega
      clear hc
      go_wp2_with fail
      go_ret
      rw [HV.out]
      exact ⟨rfl, HB0.out⟩
     ·have HV := Lib.hid (show sideP s true = 0 by rw [HS.out, if_neg hc]; simp [h0])
      have hz2 : ((n2 : Int) == 0) = false := by simp; omega
      clear hc
      go_wp2_with fail
      go_ret
      rw [HV.out]
      exact ⟨rfl, HB0.out⟩
end Go.Proofs.YthnhbcohfoodlaaGreatDoor

namespace Go.Proofs.YthnhbcohfoodlaaGreatDoor
open Go.RowKit
def fitB (dir : Int) (left right : SideD) : Bool :=
 (dir == 2 || tellsB right.source) && (dir == 1 || tellsB left.source) && (dir != 1 || (!aroundB right && decide (left.cursor < 0))) && (dir != 2 || (!aroundB left && decide (right.cursor < 0)))
def ruleP (dir : Int) (left right : SideD) : Int :=
 if dir < 1 ∨ 3 < dir then 1
 else if sideP left (dir != 2) = 0 then (if sideP right (dir != 1) = 0 then (if fitB dir left right = true then 0 else 8) else sideP right (dir != 1))
 else sideP left (dir != 2)
def partP (p : PartD) : Int :=
 if p.kind = 1 then (if namedP p.name = true then wrongP p.set else 7)
 else if p.kind = 3 then wrongP p.set
 else if p.kind = 4 then (if passB p.name = true then 0 else 7)
 else if p.kind = 2 then ruleP p.dir p.left p.right
 else 1
theorem all_small {s : SideD} (h : itemsAll [s.before, s.source, s.after] = 0) : s.before.length ≤ 20 ∧ s.source.length ≤ 20 ∧ s.after.length ≤ 20 := by
 simp only [itemsAll] at h
 by_cases h1 : itemsP s.before = 0
 ·rw [if_pos h1] at h
  by_cases h2 : itemsP s.source = 0
  ·rw [if_pos h2] at h
   by_cases h3 : itemsP s.after = 0
   ·exact ⟨items_small h1, items_small h2, items_small h3⟩
   ·rw [if_neg h3] at h; exact absurd h h3
  ·rw [if_neg h2] at h; exact absurd h h2
 ·rw [if_neg h1] at h; exact absurd h h1
theorem side_small {s : SideD} {must : Bool} (h : sideP s must = 0) : s.before.length ≤ 20 ∧ s.source.length ≤ 20 ∧ s.after.length ≤ 20 := by
 unfold sideP at h
 by_cases h1 : itemsAll [s.before, s.source, s.after] = 0
 ·exact all_small h1
 ·rw [if_neg h1] at h; exact absurd h h1
end Go.Proofs.YthnhbcohfoodlaaGreatDoor
