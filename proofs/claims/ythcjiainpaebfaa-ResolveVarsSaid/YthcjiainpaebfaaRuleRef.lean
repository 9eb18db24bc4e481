/- A rule of a file, resolved, by the document's answer: the walk of scriptref6.Rule: ruleP'. -/
import Derived.Test.YthcjiainpaebfaaSetsSyn
namespace Go.Proofs.Ythcjiainpaebfaa
open Go.RowKit Go.Maps

theorem infoRune : (Try.prog.info? 21).map (fun i => (i.zero, i.size, i.bytes)) = some (some (.int .i32 0), 1, 4) := by kernel_rfl

theorem st_form {w : World} {B lo : Nat} {r : Option (List Spans)} {e : Ending} (h : StPost w B lo r e) :
    ∃ A n c b, e = .returned (.tuple #[.slice A n c, .bool b]) ∧ b = r.isSome ∧ ∀ ll, r = some ll → SetsV w (Fr B lo) ll (.slice A n c) := by
  cases r with
  | none => exact ⟨none, 0, 0, false, h, rfl, fun _ h => by cases h⟩
  | some ll =>
    obtain ⟨u, rfl, hu⟩ := h
    have hu2 := hu
    obtain ⟨A, n, c, rfl, _⟩ := hu2
    exact ⟨A, n, c, true, rfl, rfl, fun _ h => by cases h; exact hu⟩
abbrev zeroRule : Array Value := #[.bool false, .bool false, .slice none 0 0, .slice none 0 0, .slice none 0 0, .slice none 0 0, .int .i64 0]
/-- The boxes of a rule's two sides, and of what it returns. -/
def BoxAt (w : World) (csF csT : Array Value) (wx : World) : Prop :=
  Blk wx w.heap.size 38 csF ∧ Blk wx (w.heap.size + 1) 38 csT ∧ Blk wx (w.heap.size + 2) 59 zeroRule ∧ Below w.heap.size w wx
theorem BoxAt.made (w : World) (csF csT : Array Value) : BoxAt w csF csT (((w.alloc (.cells csF 38)).alloc (.cells csT 38)).alloc (.cells zeroRule 59)) := by
  refine ⟨Blk.alloc (Blk.alloc (Blk.new _ _ _) _) _, ?_, ?_, (((Below.refl _ _).alloc (Nat.le_refl _) _).alloc (by simp) _).alloc (by simp; omega) _⟩
  · have := Blk.alloc (Blk.new (w.alloc (.cells csF 38)) 38 csT) (.cells zeroRule 59)
    simpa using this
  · have := Blk.new ((w.alloc (.cells csF 38)).alloc (.cells csT 38)) 59 zeroRule
    simpa using this
theorem BoxAt.below {w wx w2 : World} {csF csT : Array Value} (h : BoxAt w csF csT wx) (hb : Below wx.heap.size wx w2) : BoxAt w csF csT w2 :=
  ⟨Blk.below h.1 hb h.1.lt, Blk.below h.2.1 hb h.2.1.lt, Blk.below h.2.2.1 hb h.2.2.1.lt, h.2.2.2.trans (hb.mono h.2.2.2.size)⟩
/-- What a rule is told by. -/
def RlPost (w : World) (B lo : Nat) (r : Option RuleD) (e : Ending) : Prop :=
  ∃ cs : List Value, cs.length = 7 ∧ e = .returned (.tuple #[.agg cs.toArray, .bool r.isSome]) ∧ (∀ u ∈ cs, u.oneCell' = true) ∧ ∀ rd, r = some rd → RuleC w (Fr B lo) rd cs

def RrRel (w0 : World) (g : Nat) (c0 c1 c2 c3 c4 c6 : Value) (L : List ItemD) (n : Nat) (i : Value) (wr : World) : Prop :=
  ∃ (k : Nat) (v : Value), k ≤ n ∧ i = .int .i64 k ∧ Blk wr g 59 #[c0, c1, c2, c3, c4, v, c6] ∧ wr.ownsRow w0.heap.size 21 1 v k (runeCells ((L.take k).map (·.rune))) ∧ Below w0.heap.size w0 wr
theorem own_setCell_ne {w : World} {base sz n g i : Nat} {e t : TypeId} {v u : Value} {xs : List Value} {cs : Array Value} (h : w.ownsRow base e sz v n xs) (hb : Blk w g t cs) (hne : t ≠ e) : (w.setCell ⟨g, i, none⟩ u).ownsRow base e sz v n xs := by
  rcases h.2 with ⟨hv, h0⟩ | ⟨k, cap, cur, hv, h1, h2, h3⟩
  · exact ⟨h.1, .inl ⟨hv, h0⟩⟩
  · refine ⟨h.1, .inr ⟨k, cap, cur, hv, h1, ?_, h3⟩⟩
    rw [Below.heap_setCell _ _ _ _ ?_]
    · exact h2
    · intro e
      simp only at e
      subst e
      unfold Blk at hb
      rw [hb] at h2
      injection h2 with h2
      injection h2 with _ ht
      exact hne ht
theorem blk_app {w w' : World} {g base sz n m : Nat} {t e : TypeId} {cs : Array Value} {v v' : Value} {xs ys : List Value} (h : Blk w g t cs) (ho : w.ownsRow base e sz v n xs) (hne : t ≠ e) (ha : Appended base e sz v w m ys v' w') : Blk w' g t cs := by
  have hlt := h.lt
  unfold Blk at h ⊢
  rw [ha.2.1.block g hlt ?_]
  · exact h
  · intro he
    rcases ho.2 with ⟨rfl, _⟩ | ⟨g2, cap, cur, rfl, _, hg, _⟩
    · simp [Value.ownBlock] at he
    · simp only [Value.ownBlock, Option.some.injEq] at he
      subst he
      rw [h] at hg
      injection hg with hg
      injection hg with _ ht
      exact hne ht
theorem own_ne_blk {w : World} {g base sz n : Nat} {t e : TypeId} {cs : Array Value} {v : Value} {xs : List Value} (ho : w.ownsRow base e sz v n xs) (h : Blk w g t cs) (hne : t ≠ e) : v.ownBlock ≠ some g := by
  rcases ho.2 with ⟨rfl, _⟩ | ⟨g2, cap, cur, rfl, _, hg, _⟩
  · simp [Value.ownBlock]
  · simp only [Value.ownBlock, ne_eq, Option.some.injEq]
    rintro rfl
    unfold Blk at h
    rw [h] at hg
    injection hg with hg
    injection hg with _ ht
    exact hne ht
theorem runeCells_snoc (l : List Int) (x : Int) : runeCells (l ++ [x]) = runeCells l ++ [.int .i32 x] := by simp [runeCells]
theorem take_map {L : List ItemD} {k : Nat} {a : ItemD} (h : L[k]? = some a) : (L.take (k + 1)).map (·.rune) = (L.take k).map (·.rune) ++ [a.rune] := by
  rw [List.take_add_one, h]
  simp

theorem ruleP_isSome (l : List PartD) (f t : SideD) : (ruleP' l f t).isSome = ((setsP l f.before).isSome && (setsP l f.source).isSome && (setsP l f.after).isSome) := by
  unfold ruleP'
  cases setsP l f.before <;> cases setsP l f.source <;> cases setsP l f.after <;> rfl
theorem ruleP_inv {l : List PartD} {f t : SideD} {rd : RuleD} (h : ruleP' l f t = some rd) : ∃ a b c, setsP l f.before = some a ∧ setsP l f.source = some b ∧ setsP l f.after = some c ∧
    rd = ⟨f.start, f.fin, a, b, c, t.source.map (·.rune), if t.cursor < 0 then (t.source.length : Int) else t.cursor⟩ := by
  unfold ruleP' at h
  cases h1 : setsP l f.before with
  | none => rw [h1] at h; cases h
  | some a =>
    cases h2 : setsP l f.source with
    | none => rw [h1, h2] at h; cases h
    | some b =>
      cases h3 : setsP l f.after with
      | none => rw [h1, h2, h3] at h; cases h
      | some c =>
        rw [h1, h2, h3] at h
        cases h
        exact ⟨a, b, c, rfl, rfl, rfl, rfl⟩
/-- Seven stores into one block. -/
abbrev set7 (w : World) (g : Nat) (u0 u1 u2 u3 u4 u5 u6 : Value) : World :=
  ((((((w.setCell ⟨g, 0, none⟩ u0).setCell ⟨g, 1, none⟩ u1).setCell ⟨g, 2, none⟩ u2).setCell ⟨g, 3, none⟩ u3).setCell ⟨g, 4, none⟩ u4).setCell ⟨g, 5, none⟩ u5).setCell ⟨g, 6, none⟩ u6
theorem keep7 {w : World} {X : Nat → Prop} {g : Nat} (h : ∀ b, X b → b ≠ g) (u0 u1 u2 u3 u4 u5 u6 : Value) : Keeps w X (set7 w g u0 u1 u2 u3 u4 u5 u6) X := by
  have one : ∀ (w : World) (i : Nat) (u : Value), Keeps w X (w.setCell ⟨g, i, none⟩ u) X := fun w i u => Keeps.setCell u (fun b hb => h b hb) (fun _ h _ => h)
  exact ((((((one _ 0 u0).trans (one _ 1 u1)).trans (one _ 2 u2)).trans (one _ 3 u3)).trans (one _ 4 u4)).trans (one _ 5 u5)).trans (one _ 6 u6)
theorem below7 {w w0 : World} {g B : Nat} (h : Below B w0 w) (hg : B ≤ g) (u0 u1 u2 u3 u4 u5 u6 : Value) : Below B w0 (set7 w g u0 u1 u2 u3 u4 u5 u6) :=
  ((((((h.setCell hg _).setCell hg _).setCell hg _).setCell hg _).setCell hg _).setCell hg _).setCell hg _

set_option maxRecDepth 100000 in
set_option maxHeartbeats 6400000 in
theorem ref_rule (A : Option Addr) (n c : Nat) (l : List PartD) (m : Nat) (f t : SideD) (L1 L2 L3 R1 R2 R3 : Option Addr) (a1 a2 a3 x1 x2 x3 b1 b2 b3 y1 y2 y3 : Nat) (w : World) (B : Nat) (hB : B ≤ w.heap.size) (hn : n ≤ maxLen) (hm : m ≤ n) (hl : RdP w B A n l)
    (l1 : RdIt w B L1 a1 f.before) (l2 : RdIt w B L2 a2 f.source) (l3 : RdIt w B L3 a3 f.after) (k1 : itemsP f.before = 0) (k2 : itemsP f.source = 0) (k3 : itemsP f.after = 0) (r2 : RdIt w B R2 b2 t.source) (j2 : itemsP t.source = 0) (hcur : -1 ≤ t.cursor) :
    Calls Try.prog 17 #[.slice A n c, .int .i64 m, .agg #[.bool f.start, .bool f.fin, .slice L1 a1 x1, .slice L2 a2 x2, .slice L3 a3 x3, .int .i64 f.cursor], .agg #[.bool t.start, .bool t.fin, .slice R1 b1 y1, .slice R2 b2 y2, .slice R3 b3 y3, .int .i64 t.cursor]] w
      fun e w' => RlPost w' B w.heap.size (ruleP' (l.take m) f t) e ∧ Below w.heap.size w w' := by
  obtain ⟨i0, hi, hz0, hz1, hz2⟩ := info_parts infoRune
  obtain ⟨h20, _⟩ := items_ok j2
  have hb20 : b2 ≤ 20 := by rw [← RdL.len r2]; exact h20
  have HRL := Lib.hid (RdL.len r2)
  have HR2 := Lib.hid r2
  have hs := fun (w' : World) (hb : Below w.heap.size w w') (A' : Option Addr) (n' c' : Nat) (L : List ItemD) (hL : RdIt w B A' n' L) (hok : itemsP L = 0) => ref_sets A n c l m A' n' c' L w' B (Nat.le_trans hB hb.size) hn hm (RdP.weak (weak_of (hb.mono hB) (Nat.le_refl _)) hl) (RdIt.weak (weak_of (hb.mono hB) (Nat.le_refl _)) hL) hok
  have HS1 := Lib.hid (fun (w' : World) (hb : Below w.heap.size w w') => hs w' hb L1 a1 x1 f.before l1 k1)
  have HS2 := Lib.hid (fun (w' : World) (hb : Below w.heap.size w w') => hs w' hb L2 a2 x2 f.source l2 k2)
  have HS3 := Lib.hid (fun (w' : World) (hb : Below w.heap.size w w') => hs w' hb L3 a3 x3 f.after l3 k3)
  have HX0 := Lib.hid (BoxAt.made w #[.bool f.start, .bool f.fin, .slice L1 a1 x1, .slice L2 a2 x2, .slice L3 a3 x3, .int .i64 f.cursor] #[.bool t.start, .bool t.fin, .slice R1 b1 y1, .slice R2 b2 y2, .slice R3 b3 y3, .int .i64 t.cursor])
  clear hs l1 l2 l3 r2 k1 k2 k3 j2 hl h20 hn hm
  generalize l.take m = LP at *
  go_enter Try.func17, Try.ntmps17
  go_wp2_with fail
  refine (HS1.out _ HX0.out.2.2.2).mono ?_
  rintro e w1 ⟨he, hb1⟩
  obtain ⟨A1, n1, c1, o1, rfl, ho1, hv1⟩ := st_form he
  have HX1 := Lib.hid (BoxAt.below HX0.out hb1)
  have e13 : w1.cell? ⟨w.heap.size, 3, none⟩ = some (.slice L2 a2 x2) := HX1.out.1.cell 3
  have HV1 := Lib.hid (fun ll h => (hv1 ll h).keep (Keeps.refl (X' := Fr B (w.heap.size + 3)) (fun b hb => hb.imp id (fun h => by simp at h; omega))))
  have HO1 := Lib.hid ho1
  clear he hb1 ho1 hv1
  go_wp2_with fail
  refine (HS2.out _ HX1.out.2.2.2).mono ?_
  rintro e w2 ⟨he, hb2⟩
  obtain ⟨A2, n2, c2, o2, rfl, ho2, hv2⟩ := st_form he
  have HX2 := Lib.hid (BoxAt.below HX1.out hb2)
  have e24 : w2.cell? ⟨w.heap.size, 4, none⟩ = some (.slice L3 a3 x3) := HX2.out.1.cell 4
  have HB2 := Lib.hid hb2
  have HV2 := Lib.hid (fun ll h => (hv2 ll h).keep (Keeps.refl (X' := Fr B (w.heap.size + 3)) (fun b hb => hb.imp id (fun h => by have := HX1.out.2.2.1.lt; omega))))
  have HO2 := Lib.hid ho2
  clear he hb2 ho2 hv2
  go_wp2_with fail
  refine (HS3.out _ HX2.out.2.2.2).mono ?_
  rintro e w3 ⟨he, hb3⟩
  obtain ⟨A3, n3, c3, o3, rfl, ho3, hv3⟩ := st_form he
  have HX3 := Lib.hid (BoxAt.below HX2.out hb3)
  have HB3 := Lib.hid hb3
  have HV3 := Lib.hid (fun ll h => (hv3 ll h).keep (Keeps.refl (X' := Fr B (w.heap.size + 3)) (fun b hb => hb.imp id (fun h => by have := HX2.out.2.2.1.lt; omega))))
  have HO3 := Lib.hid ho3
  have e30 : w3.cell? ⟨w.heap.size, 0, none⟩ = some (.bool f.start) := HX3.out.1.cell 0
  have e31 : w3.cell? ⟨w.heap.size, 1, none⟩ = some (.bool f.fin) := HX3.out.1.cell 1
  have e35 : w3.cell? ⟨w.heap.size + 1, 5, none⟩ = some (.int .i64 t.cursor) := HX3.out.2.1.cell 5
  have e33 : w3.cell? ⟨w.heap.size + 1, 3, none⟩ = some (.slice R2 b2 y2) := HX3.out.2.1.cell 3
  have hz3 := HX3.out.2.2.2.size
  have l31 := HX3.out.2.1.lt
  clear he hb3 ho3 hv3
  go_wp2_with fail
  go_loopw [56] (RrRel w3 w3.heap.size (.bool f.start) (.bool f.fin) (.slice A1 n1 c1) (.slice A2 n2 c2) (.slice A3 n3 c3) (.int .i64 t.cursor) t.source b2) (fun i _ => b2 - (intOf i).toNat)
  case atStart => exact ⟨0, .slice none 0 0, Nat.zero_le _, rfl, Blk.new _ _ _, World.ownsRow_nil _ _ _ _, (Below.refl _ _).alloc (Nat.le_refl _) _⟩
  case round =>
    obtain ⟨k, v, hk, rfl, hblk, hown, hb⟩ := hrel
    have hz := hb.size
    by_cases hlt : k < b2
    · obtain ⟨a, ha⟩ : ∃ z, t.source[k]? = some z := ⟨_, List.getElem?_eq_getElem (by rw [HRL.out]; exact hlt)⟩
      obtain ⟨b, off, A', n', c', rfl, hbb, f0, f1, f2, f3, _, _, _, _⟩ := item_at HR2.out ha
      have hbt := HX3.out.2.2.2.trans (hb.mono hz3)
      have hbw : b < w.heap.size := by omega
      have d0 := (hbt.cell (p := ⟨b, off + k * 4, none⟩) hbw).trans f0
      have d1 := (hbt.cell (p := ⟨b, off + k * 4 + 1, none⟩) hbw).trans f1
      have d2 := (hbt.cell (p := ⟨b, off + k * 4 + 2, none⟩) hbw).trans f2
      have d3 := (hbt.cell (p := ⟨b, off + k * 4 + 3, none⟩) hbw).trans f3
      clear f0 f1 f2 f3 hbt
      generalize hT : (t.source.take k).map (·.rune) = T at hown
      have HTM := Lib.hid ((take_map ha).trans (by rw [hT] : _ = T ++ [a.rune]))
      clear hT
      obtain ⟨Av, cv, rfl, _⟩ := own_form hown
      have hK1 := Blk.new wr 43 #[.int .i64 a.kind, .int .i32 a.rune, .slice A' n' c', .string a.name]
      have hG1 := Blk.alloc hblk (.cells #[.int .i64 a.kind, .int .i32 a.rune, .slice A' n' c', .string a.name] 43)
      have hO1 := World.ownsRow.alloc hown (.cells #[.int .i64 a.kind, .int .i32 a.rune, .slice A' n' c', .string a.name] 43)
      have hB1 := hb.alloc hz (.cells #[.int .i64 a.kind, .int .i32 a.rune, .slice A' n' c', .string a.name] 43)
      clear hblk hown hb ha
      have c5 : (wr.alloc (.cells #[.int .i64 a.kind, .int .i32 a.rune, .slice A' n' c', .string a.name] 43)).cell? ⟨w3.heap.size, 5, none⟩ = some (.slice Av k cv) := hG1.cell 5
      have HG2 := Lib.hid (Blk.alloc hG1 (.cells #[.int .i32 a.rune] 21))
      have HO2 := Lib.hid (World.ownsRow.alloc hO1 (.cells #[.int .i32 a.rune] 21))
      have HB2' := Lib.hid (hB1.alloc hB1.size (.cells #[.int .i32 a.rune] 21))
      have hN := Rd.new (wr.alloc (.cells #[.int .i64 a.kind, .int .i32 a.rune, .slice A' n' c', .string a.name] 43)) 21 1 1 [.int .i32 a.rune] rfl
      rw [show (wr.alloc (.cells #[.int .i64 a.kind, .int .i32 a.rune, .slice A' n' c', .string a.name] 43)).heap.size = wr.heap.size + 1 by simp] at hN
      have HN := Lib.hid hN
      clear hK1 hG1 hO1 hB1 hN
      have H1C := Lib.hid (show ∀ u ∈ [Value.int .i32 a.rune], u.oneCell' = true by intro x hx; simp at hx; subst hx; rfl)
      go_wp2_with (at_builtin; refine wpList_append_rd _ rfl (.tmp 61) (.tmp 64) 57 rfl w3.heap.size 21 i0 _ 1 4 Try.underlying57 hi hz0 hz1 hz2 rfl (by decide) _ _ _ rfl HO2.out _ (some ⟨wr.heap.size + 1, 0, none⟩) 1 1 [.int .i32 a.rune] rfl HN.out H1C.out (by simp only [maxLen]; omega) (by omega) HB2'.out.size ?_)
      intro v9 w9 happ
      have hG3 := blk_app HG2.out HO2.out (by decide) happ
      have ho9 := happ.own
      have HB9 := Lib.hid (HB2'.out.trans (happ.below HB2'.out.size HO2.out))
      rw [← runeCells_snoc, ← HTM.out] at ho9
      obtain ⟨A9, c9, rfl, _⟩ := own_form ho9
      have p5 : w9.cell? ⟨w3.heap.size, 5, none⟩ = some (.slice Av k cv) := hG3.cell 5
      have p5f := hG3.frozen 5
      have HG3 := Lib.hid hG3
      have HO9 := Lib.hid ho9
      clear happ hG3 ho9
      go_wp2_with fail
      refine ⟨⟨k + 1, .slice A9 (k + 1) c9, by omega, by go_num, ?_, own_setCell_ne HO9.out HG3.out (by decide), HB9.out.setCell (Nat.le_refl _) _⟩, by simp [intOf]; omega⟩
      have := HG3.out.put 5 (.slice A9 (k + 1) c9)
      simpa using this
    · obtain rfl : k = b2 := by omega
      rw [List.take_of_length_le (by rw [HRL.out]; omega)] at hown
      obtain ⟨Av, cv, rfl, _⟩ := own_form hown
      have HBLK := Lib.hid hblk
      have HOWN := Lib.hid hown
      have HB := Lib.hid hb
      have t0 : wr.cell? ⟨w3.heap.size, 0, none⟩ = some (.bool f.start) := hblk.cell 0
      have t1 : wr.cell? ⟨w3.heap.size, 1, none⟩ = some (.bool f.fin) := hblk.cell 1
      have t2 : wr.cell? ⟨w3.heap.size, 2, none⟩ = some (.slice A1 n1 c1) := hblk.cell 2
      have t3 : wr.cell? ⟨w3.heap.size, 3, none⟩ = some (.slice A2 n2 c2) := hblk.cell 3
      have t4 : wr.cell? ⟨w3.heap.size, 4, none⟩ = some (.slice A3 n3 c3) := hblk.cell 4
      have t5 : wr.cell? ⟨w3.heap.size, 5, none⟩ = some (.slice Av k cv) := hblk.cell 5
      have t6 : wr.cell? ⟨w3.heap.size, 6, none⟩ = some (.int .i64 t.cursor) := hblk.cell 6
      have t6f := hblk.frozen 6
      have hres := Blk.below HX3.out.2.2.1 hb HX3.out.2.2.1.lt
      have s0 : wr.cell? ⟨w.heap.size + 2, 0, none⟩ = some (.bool false) := hres.cell 0
      have s1 : wr.cell? ⟨w.heap.size + 2, 1, none⟩ = some (.bool false) := hres.cell 1
      have s2 : wr.cell? ⟨w.heap.size + 2, 2, none⟩ = some (.slice none 0 0) := hres.cell 2
      have s3 : wr.cell? ⟨w.heap.size + 2, 3, none⟩ = some (.slice none 0 0) := hres.cell 3
      have s4 : wr.cell? ⟨w.heap.size + 2, 4, none⟩ = some (.slice none 0 0) := hres.cell 4
      have s5 : wr.cell? ⟨w.heap.size + 2, 5, none⟩ = some (.slice none 0 0) := hres.cell 5
      have s6 : wr.cell? ⟨w.heap.size + 2, 6, none⟩ = some (.int .i64 0) := hres.cell 6
      have sf0 := hres.frozen 0
      have sf1 := hres.frozen 1
      have sf2 := hres.frozen 2
      have sf3 := hres.frozen 3
      have sf4 := hres.frozen 4
      have sf5 := hres.frozen 5
      have sf6 := hres.frozen 6
      have hne : w3.heap.size ≠ w.heap.size + 2 := by have := HX3.out.2.2.1.lt; omega
      have hend : ∀ (we : World) (K : Int) (o : Bool), (we = wr ∨ ∃ u, we = wr.setCell ⟨w3.heap.size, 6, none⟩ u) → K = (if t.cursor < 0 then (t.source.length : Int) else t.cursor) → o = (o1 && o2 && o3) →
          RlPost (set7 we (w.heap.size + 1 + 1) (.bool f.start) (.bool f.fin) (.slice A1 n1 c1) (.slice A2 n2 c2) (.slice A3 n3 c3) (.slice Av k cv) (.int .i64 K)) B w.heap.size (ruleP' LP f t) (.returned (.tuple #[.agg #[.bool f.start, .bool f.fin, .slice A1 n1 c1, .slice A2 n2 c2, .slice A3 n3 c3, .slice Av k cv, .int .i64 K], .bool o])) ∧
          Below w.heap.size w (set7 we (w.heap.size + 1 + 1) (.bool f.start) (.bool f.fin) (.slice A1 n1 c1) (.slice A2 n2 c2) (.slice A3 n3 c3) (.slice Av k cv) (.int .i64 K)) := by
        intro we K o hwe hK ho
        have hbe : Below w.heap.size w we := by
          rcases hwe with rfl | ⟨u, rfl⟩
          · exact HX3.out.2.2.2.trans (hb.mono hz3)
          · exact (HX3.out.2.2.2.trans (hb.mono hz3)).setCell (by simpa using hz3) _
        have kw : ∀ (X : Nat → Prop), (∀ b, X b → b ≠ w3.heap.size) → Keeps wr X we X := by
          intro X hX
          rcases hwe with rfl | ⟨u, rfl⟩
          · exact Keeps.refl (fun _ h => h)
          · exact Keeps.setCell u (fun b hb => hX b hb) (fun _ h _ => h)
        have kk : Keeps w3 (Fr B (w.heap.size + 3)) (set7 we (w.heap.size + 1 + 1) (.bool f.start) (.bool f.fin) (.slice A1 n1 c1) (.slice A2 n2 c2) (.slice A3 n3 c3) (.slice Av k cv) (.int .i64 K)) (Fr B w.heap.size) := by
          refine ((Keeps.below (X' := fun b => Fr B (w.heap.size + 3) b ∧ b < w3.heap.size) hb (fun b hx hl => ⟨hx, hl⟩)).trans (kw _ (fun b hx => by have := hx.2; omega))).trans ((keep7 (fun b hx => ?_) _ _ _ _ _ _ _).trans (Keeps.refl (fun b hx => ?_)))
          · rcases hx.1 with h | h <;> omega
          · exact hx.1.imp id (fun h => by omega)
        refine ⟨⟨[.bool f.start, .bool f.fin, .slice A1 n1 c1, .slice A2 n2 c2, .slice A3 n3 c3, .slice Av k cv, .int .i64 K], rfl, ?_, ?_, fun rd hrd => ?_⟩, below7 hbe (by omega) _ _ _ _ _ _ _⟩
        · rw [ruleP_isSome, ← HO1.out, ← HO2.out, ← HO3.out, ho]
        · intro u hu
          simp only [List.mem_cons, List.not_mem_nil, or_false] at hu
          rcases hu with rfl | rfl | rfl | rfl | rfl | rfl | rfl <;> rfl
        · obtain ⟨a, b, c, g1, g2, g3, rfl⟩ := ruleP_inv hrd
          refine ⟨_, _, _, Av, k, cv, by rw [hK], (HV1.out a g1).keep ((Keeps.below HB2.out (fun _ h _ => h)).trans ((Keeps.below HB3.out (fun _ h _ => h)).trans kk)), (HV2.out b g2).keep ((Keeps.below HB3.out (fun _ h _ => h)).trans kk), (HV3.out c g3).keep kk, ?_, by unfold maxLen; omega⟩
          refine (RdX.of_own (X := fun b => w3.heap.size ≤ b ∧ b ≠ w3.heap.size) hown (fun b hb => ⟨(own_lt hown hb).1, fun e => own_ne_blk hown hblk (by decide) (by rw [hb, e])⟩)).keep ((kw _ (fun b hx => hx.2)).trans ((keep7 (fun b hx => ?_) _ _ _ _ _ _ _).trans (Keeps.refl (fun b hx => .inr ?_))))
          · have := hx.1; omega
          · have := hx.1; omega
      have HEND := Lib.hid hend
      have hkl : (t.source.length : Int) = k := by rw [HRL.out]
      have HKL := Lib.hid hkl
      clear hend hkl
      clear hblk hown hb hres
      by_cases hc : t.cursor = -1
      · have q1 : (t.cursor == -1) = true := by simpa using hc
        have HC := Lib.hid hc
        clear hc
        have HK := Lib.hid (show ((k : Nat) : Int) = (if t.cursor < 0 then (t.source.length : Int) else t.cursor) by rw [HC.out, if_pos (by decide), HKL.out])
        cases o1 <;> cases o2 <;> cases o3
        all_goals
          go_wp2_with fail
          obtain ⟨hpost, hbl⟩ := HEND.out _ _ _ (.inr ⟨_, rfl⟩) HK.out rfl
          exact bodyPost_ret (by simp [results, Try.results17, go_sem, s0, s1, s2, s3, s4, s5, s6]) rfl ⟨hpost, hbl⟩
      · have q1 : (t.cursor == -1) = false := by simpa using hc
        have HK := Lib.hid (show t.cursor = (if t.cursor < 0 then (t.source.length : Int) else t.cursor) by rw [if_neg (by omega)])
        clear hc
        cases o1 <;> cases o2 <;> cases o3
        all_goals
          go_wp2_with fail
          obtain ⟨hpost, hbl⟩ := HEND.out _ _ _ (.inl rfl) HK.out rfl
          exact bodyPost_ret (by simp [results, Try.results17, go_sem, s0, s1, s2, s3, s4, s5, s6]) rfl ⟨hpost, hbl⟩

end Go.Proofs.Ythcjiainpaebfaa
