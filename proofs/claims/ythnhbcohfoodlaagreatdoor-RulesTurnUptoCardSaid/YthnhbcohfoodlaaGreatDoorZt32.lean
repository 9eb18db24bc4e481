/- BareItems + BareSide -/
import Derived.Test.YthnhbcohfoodlaaGreatDoorZt14
import Derived.Test.YthnhbcohfoodlaaGreatDoorZt7
import Derived.Deep.CutBlock
import Derived.Deep.DeepCutAuto
import Derived.Deep.RegionLaw
import Derived.Deep.RegionHeldLaw
namespace Go.Proofs.YthnhbcohfoodlaaGreatDoor
open Go.RowKit
def BiRel (w : World) (B : Nat) (l : List ItemD) (n : Nat) (m i : Value) (wr : World) : Prop :=
 ∃ (k : Nat), k ≤ n ∧ i = .int .i64 k ∧ OwnL (ItemX w (· < B)) 114 4 wr w.heap.size m ((l.take k).map bareI) ∧ Below w.heap.size w wr
section
variable {w : World} {X : Nat → Prop} {p : ItemD}
theorem bare_1 (h : p.kind = 1) (hk : i64R p.kind) : ItemX w X (bareI p) [.int .i64 p.kind, .int .i32 p.rune, .slice none 0 0, .string ⟨#[]⟩] := by
 have e : bareI p = ⟨p.kind, p.rune, [], ⟨#[]⟩⟩ := by unfold bareI; simp [h]
 rw [e]
 exact ⟨none, 0, 0, rfl, RdX.nil 2, Nat.zero_le _, hk, Nat.zero_le _⟩
theorem bare_2 (h : p.kind = 2) (hk : i64R p.kind) {A : Option Addr} {n c : Nat} (hs : RdX w X 2 A n (spanCells p.set)) (hn : n ≤ maxLen) : ItemX w X (bareI p) [.int .i64 p.kind, .int .i32 0, .slice A n c, .string ⟨#[]⟩] := by
 have e : bareI p = ⟨p.kind, 0, p.set, ⟨#[]⟩⟩ := by unfold bareI; simp [h]
 rw [e]
 exact ⟨A, n, c, rfl, hs, hn, hk, Nat.zero_le _⟩
theorem bare_3 (h : p.kind = 3) (hk : i64R p.kind) (hn : p.name.size ≤ maxLen) : ItemX w X (bareI p) [.int .i64 p.kind, .int .i32 0, .slice none 0 0, .string p.name] := by
 have e : bareI p = ⟨p.kind, 0, [], p.name⟩ := by unfold bareI; simp [h]
 rw [e]
 exact ⟨none, 0, 0, rfl, RdX.nil 2, Nat.zero_le _, hk, hn⟩
end
set_option maxRecDepth 100000 in
set_option maxHeartbeats 3200000 in
theorem bare_items (B : Nat) (A : Option Addr) (n c : Nat) (l : List ItemD) (w : World) (hn : n ≤ 20) (hl : ItemsX w (· < B) A n l) (hk : ∀ a ∈ l, itemP a = 0) :
 Calls Tryz.prog 117 #[.slice A n c] w fun e w' => (∃ A' c', e = .returned (.slice A' n c') ∧ ItemsX w' (Fr B w.heap.size) A' n (l.map bareI)) ∧ Below w.heap.size w w' := by
 obtain ⟨i0, hi, hz0, hz1, hz2⟩ := info_parts infoItem
 have HLEN := Lib.hid hl.len
 have HL := Lib.hid hl
 have HK := Lib.hid hk
 have hn2 : n ≤ 9223372036854775807 := by omega
 clear hl hk
 go_enter Tryz.func117, Tryz.ntmps117
 go_wp2_with fail
 go_loopw [3, 9] (BiRel w B l n) (fun _ i _ => n - (intOf i).toNat)
 case atStart => exact ⟨0, Nat.zero_le _, rfl, OwnL.nil _ _, Below.refl _ _⟩
 case round =>
  obtain ⟨k, hk, rfl, hown, hb⟩ := hrel
  by_cases hlt : k < n
  ·obtain ⟨p, hp⟩ : ∃ z, l[k]? = some z := ⟨_, List.getElem?_eq_getElem (by rw [HLEN.out]; exact hlt)⟩
   have hpk := item_kinds (HK.out p (List.mem_of_getElem? hp))
   obtain ⟨b, off, cs, rfl, hbb, hbl, hpc, _, hfc⟩ := ListX.at HL.out hp
   obtain ⟨A', n', c', rfl, hset, hn', hkd, hnm⟩ := hpc
   have d0 : wr.cell? ⟨b, off + k * 4, none⟩ = some (.int .i64 p.kind) := (hb.cell (p := ⟨b, off + k * 4, none⟩) hbl).trans (hfc 0 _ rfl)
   have d1 : wr.cell? ⟨b, off + k * 4 + 1, none⟩ = some (.int .i32 p.rune) := (hb.cell (p := ⟨b, off + k * 4 + 1, none⟩) hbl).trans (hfc 1 _ rfl)
   have d2 : wr.cell? ⟨b, off + k * 4 + 2, none⟩ = some (.slice A' n' c') := (hb.cell (p := ⟨b, off + k * 4 + 2, none⟩) hbl).trans (hfc 2 _ rfl)
   have d3 : wr.cell? ⟨b, off + k * 4 + 3, none⟩ = some (.string p.name) := (hb.cell (p := ⟨b, off + k * 4 + 3, none⟩) hbl).trans (hfc 3 _ rfl)
   have HOWN := Lib.hid hown
   have HB := Lib.hid hb
   have HX := Lib.hid (two_new wr 114 114 #[.int .i64 p.kind, .int .i32 p.rune, .slice A' n' c', .string p.name] #[.int .i64 p.kind, .int .i32 0, .slice none 0 0, .string ⟨#[]⟩])
   have HTK := Lib.hid (take_snoc hp)
   have HSET := Lib.hid hset
   have HKD := Lib.hid hkd
   have HPK := Lib.hid hpk
   have hml : ((l.take k).map bareI).length = k := by rw [List.length_map, List.length_take, HLEN.out]; omega
   clear hfc hpk hown hb hp hset hkd
   go_upto_block 2 with fail
   have x0 := HX.out.1
   have x1 := HX.out.2.1
   have x2 := HX.out.2.2.1
   clear HX d0 d1 d2 d3
   generalize ((wr.alloc (.cells #[.int .i64 p.kind, .int .i32 p.rune, .slice A' n' c', .string p.name] 114)).alloc (.cells #[.int .i64 p.kind, .int .i32 0, .slice none 0 0, .string ⟨#[]⟩] 114)) = W2 at *
   have e1 : W2.cell? ⟨wr.heap.size, 1, none⟩ = some (.int .i32 p.rune) := x0.cell 1
   have e2 : W2.cell? ⟨wr.heap.size, 2, none⟩ = some (.slice A' n' c') := x0.cell 2
   have e3 : W2.cell? ⟨wr.heap.size, 3, none⟩ = some (.string p.name) := x0.cell 3
   have f0 := x1.frozen 0
   have f1 := x1.frozen 1
   have f2 := x1.frozen 2
   have f3 := x1.frozen 3
   have g1 : W2.cell? ⟨wr.heap.size + 1, 1, none⟩ = some (.int .i32 0) := x1.cell 1
   have g2 : W2.cell? ⟨wr.heap.size + 1, 2, none⟩ = some (.slice none 0 0) := x1.cell 2
   have g3 : W2.cell? ⟨wr.heap.size + 1, 3, none⟩ = some (.string ⟨#[]⟩) := x1.cell 3
   have HX1 := Lib.hid x1
   have HX2 := Lib.hid x2
   have hlx := x1.lt
   clear x0 x1 x2
   go_cut [] (fun wx => ∃ cs : List Value, ItemX w (· < B) (bareI p) cs ∧ Blk wx (wr.heap.size + 1) 114 cs.toArray ∧ Below wr.heap.size wr wx)
   case first =>
    have hpk := HPK.out
    clear HPK
    rcases hpk with ⟨h, _⟩ | ⟨h, _⟩ | ⟨h, _⟩
    ·have q1 : (p.kind == 1) = true := by rw [h]; rfl
     have HI := Lib.hid (bare_1 (w := w) (X := (· < B)) h HKD.out)
     clear h
     go_wp2_with fail
     go_meet
     exact ⟨_, HI.out, HX1.out.put 1 (.int .i32 p.rune), HX2.out.setCell (p := ⟨wr.heap.size + 1, 1, none⟩) (Nat.le_succ _) (.int .i32 p.rune)⟩
    ·have q1 : (p.kind == 1) = false := by rw [h]; rfl
     have q2 : (p.kind == 2) = true := by rw [h]; rfl
     have HI := Lib.hid (bare_2 (w := w) (X := (· < B)) (c := c') h HKD.out HSET.out hn')
     clear h
     go_wp2_with fail
     go_meet
     exact ⟨_, HI.out, HX1.out.put 2 (.slice A' n' c'), HX2.out.setCell (p := ⟨wr.heap.size + 1, 2, none⟩) (Nat.le_succ _) (.slice A' n' c')⟩
    ·have q1 : (p.kind == 1) = false := by rw [h]; rfl
     have q2 : (p.kind == 2) = false := by rw [h]; rfl
     have q3 : (p.kind == 3) = true := by rw [h]; rfl
     have HI := Lib.hid (bare_3 (w := w) (X := (· < B)) h HKD.out hnm)
     clear h
     go_wp2_with fail
     go_meet
     exact ⟨_, HI.out, HX1.out.put 3 (.string p.name), HX2.out.setCell (p := ⟨wr.heap.size + 1, 3, none⟩) (Nat.le_succ _) (.string p.name)⟩
   case rest =>
    obtain ⟨cs, hpc, hbx, hwx⟩ := hcut
    have hone := hpc.one
    have HTK2 := Lib.hid (show (l.take (k + 1)).map bareI = (l.take k).map bareI ++ [bareI p] by rw [HTK.out, List.map_append]; rfl)
    generalize bareI p = q at *
    generalize (l.take k).map bareI = M at *
    obtain ⟨A9, n9, c9, rfl, hq1, hq2⟩ := hpc
    have y0 : wc.cell? ⟨wr.heap.size + 1, 0, none⟩ = some (.int .i64 q.kind) := hbx.cell 0
    have y1 : wc.cell? ⟨wr.heap.size + 1, 1, none⟩ = some (.int .i32 q.rune) := hbx.cell 1
    have y2 : wc.cell? ⟨wr.heap.size + 1, 2, none⟩ = some (.slice A9 n9 c9) := hbx.cell 2
    have y3 : wc.cell? ⟨wr.heap.size + 1, 3, none⟩ = some (.string q.name) := hbx.cell 3
    obtain ⟨css, g1, g2, g3, g4⟩ := HOWN.out
    have hzc := hwx.size
    have HO := Lib.hid (World.ownsRow.alloc (own_below g4 hwx) (.cells #[.int .i64 q.kind, .int .i32 q.rune, .slice A9 n9 c9, .string q.name] 114))
    have HN2 := Lib.hid (Rd.new wc 114 4 1 [.int .i64 q.kind, .int .i32 q.rune, .slice A9 n9 c9, .string q.name] rfl)
    have H1C := Lib.hid hone.2
    have HPQ := Lib.hid (show ItemX w (· < B) q [.int .i64 q.kind, .int .i32 q.rune, .slice A9 n9 c9, .string q.name] from ⟨A9, n9, c9, rfl, hq1, hq2⟩)
    have HWC := Lib.hid hwx
    have G1 := Lib.hid g1
    have G2 := Lib.hid g2
    have G3 := Lib.hid g3
    have hbz := HB.out.size
    clear hbx hwx g1 g2 g3 g4 e1 e2 e3 f0 f1 f2 f3 hone hq1 hq2
    go_wp2_with (at_builtin; refine wpList_append_rd _ rfl (.tmp 33) (.tmp 35) 94 rfl w.heap.size 114 i0 _ 4 56 Tryz.underlying94 hi hz0 hz1 hz2 rfl (by decide) _ _ _ rfl HO.out _ (some ⟨wc.heap.size, 0, none⟩) 1 1 [.int .i64 q.kind, .int .i32 q.rune, .slice A9 n9 c9, .string q.name] rfl HN2.out H1C.out (by rw [hml]; unfold maxLen; omega) (by rw [hml]; omega) (by simp; omega) ?_)
    intro v9 w9 happ
    rw [← hml] at happ
    have HBN := Lib.hid ((HB.out.trans (HWC.out.mono hbz)).trans (((Below.refl _ _).alloc (Nat.le_trans hbz hzc) _).trans (happ.below (by simp; omega) HO.out)))
    have HOW := Lib.hid (OwnL.push G1.out G2.out G3.out (fun _ _ h => h) HPQ.out rfl happ)
    clear happ
    go_wp2_with fail
    refine ⟨⟨k + 1, hlt, by go_num, ?_, HBN.out⟩, by simp only [intOf]; omega⟩
    rw [HTK2.out]
    exact HOW.out
  ·obtain rfl : k = n := by omega
   have htl : l.take k = l := by rw [List.take_of_length_le (by rw [HLEN.out]; exact Nat.le_refl _)]
   rw [htl] at hown
   obtain ⟨Am, km, rfl, _⟩ := hown.form
   have hmk : (l.map bareI).length = k := by rw [List.length_map, HLEN.out]
   have hres := OwnL.done hown (R' := ItemX wr (Fr B w.heap.size)) (X := Fr B w.heap.size) (fun _ _ => ItemX.keep (Keeps.below hb (fun _ h _ => .inl h))) (fun b hb' => by
    obtain ⟨_, _, _, _, h4⟩ := hown
    exact .inr (own_lt h4 hb').1)
   rw [hmk] at hres
   have HRES := Lib.hid hres
   have HB := Lib.hid hb
   clear hown hb hres
   rw [hmk]
   go_wp2_with fail
   go_ret
   exact ⟨⟨Am, km, rfl, HRES.out⟩, HB.out⟩
end Go.Proofs.YthnhbcohfoodlaaGreatDoor

namespace Go.Proofs.YthnhbcohfoodlaaGreatDoor
open Go.RowKit
theorem six_of {g : Nat} {t : TypeId} {c0 c1 c2 c3 c4 c5 : Value} {wx : World} (h : Blk wx g t #[c0, c1, c2, c3, c4, c5]) :
 wx.cell? ⟨g, 0, none⟩ = some c0 ∧ wx.cell? ⟨g, 1, none⟩ = some c1 ∧ wx.cell? ⟨g, 2, none⟩ = some c2 ∧ wx.cell? ⟨g, 3, none⟩ = some c3 ∧ wx.cell? ⟨g, 4, none⟩ = some c4 ∧ wx.cell? ⟨g, 5, none⟩ = some c5 :=
 ⟨h.cell 0, h.cell 1, h.cell 2, h.cell 3, h.cell 4, h.cell 5⟩
theorem fr_set1 {w : World} {B m i : Nat} {u : Value} (hB : B ≤ m) : Keeps w (Fr B (m + 2)) (w.setCell ⟨m + 1, i, none⟩ u) (Fr B (m + 2)) := Keeps.setCell u (fun b hb => by rcases hb with h | h <;> dsimp only <;> omega) (fun _ h _ => h)
set_option maxRecDepth 100000 in
set_option maxHeartbeats 3200000 in
theorem bare_side (B : Nat) (s : SideD) (L1 L2 L3 : Option Addr) (a1 a2 a3 x1 x2 x3 : Nat) (w : World) (hB : B ≤ w.heap.size) (l1 : ItemsX w (· < B) L1 a1 s.before) (l2 : ItemsX w (· < B) L2 a2 s.source) (l3 : ItemsX w (· < B) L3 a3 s.after)
 (k1 : itemsP s.before = 0) (k2 : itemsP s.source = 0) (k3 : itemsP s.after = 0) (hc : i64R s.cursor) :
 Calls Tryz.prog 69 #[.agg #[.bool s.start, .bool s.fin, .slice L1 a1 x1, .slice L2 a2 x2, .slice L3 a3 x3, .int .i64 s.cursor]] w fun e w' => (∃ cs : List Value, e = .returned (.agg cs.toArray) ∧ SideX w' (Fr B w.heap.size) (bareS s) cs) ∧ Below w.heap.size w w' := by
 have hs := fun (w' : World) (hb : Below w.heap.size w w') (A' : Option Addr) (n' c' : Nat) (L : List ItemD) (hL : ItemsX w (· < B) A' n' L) (hok : itemsP L = 0) => bare_items B A' n' c' L w' (by rw [← hL.len]; exact (items_ok hok).1) (hL.keep (Keeps.below hb (fun _ h _ => h))) (items_ok hok).2
 have b1 : a1 ≤ 20 := by rw [← l1.len]; exact (items_ok k1).1
 have b2 : a2 ≤ 20 := by rw [← l2.len]; exact (items_ok k2).1
 have b3 : a3 ≤ 20 := by rw [← l3.len]; exact (items_ok k3).1
 have HS1 := Lib.hid (fun (w' : World) (hb : Below w.heap.size w w') => hs w' hb L1 a1 x1 s.before l1 k1)
 have HS2 := Lib.hid (fun (w' : World) (hb : Below w.heap.size w w') => hs w' hb L2 a2 x2 s.source l2 k2)
 have HS3 := Lib.hid (fun (w' : World) (hb : Below w.heap.size w w') => hs w' hb L3 a3 x3 s.after l3 k3)
 have HX0 := Lib.hid (two_new w 96 96 #[.bool s.start, .bool s.fin, .slice L1 a1 x1, .slice L2 a2 x2, .slice L3 a3 x3, .int .i64 s.cursor] #[.bool false, .bool false, .slice none 0 0, .slice none 0 0, .slice none 0 0, .int .i64 0])
 have HC := Lib.hid hc
 clear hs l1 l2 l3 k1 k2 k3 hc
 go_enter Tryz.func69, Tryz.ntmps69
 go_upto_region 1 with fail
 obtain ⟨hx0, hx1, hx2, hx3⟩ := HX0.out
 clear HX0
 generalize ((w.alloc (.cells #[.bool s.start, .bool s.fin, .slice L1 a1 x1, .slice L2 a2 x2, .slice L3 a3 x3, .int .i64 s.cursor] 96)).alloc (.cells #[.bool false, .bool false, .slice none 0 0, .slice none 0 0, .slice none 0 0, .int .i64 0] 96)) = W2 at *
 have HX := Lib.hid hx0
 have HY := Lib.hid hx1
 have HB2 := Lib.hid hx2
 have hz2 := hx3
 clear hx0 hx1 hx2 hx3
 refine wp_region_held_drew (S := (fun w' => w'.cell? ⟨w.heap.size, 0, none⟩ = some (.bool s.start) ∧ w'.cell? ⟨w.heap.size, 1, none⟩ = some (.bool s.fin) ∧ w'.cell? ⟨w.heap.size, 2, none⟩ = some (.slice L1 a1 x1) ∧ w'.cell? ⟨w.heap.size, 3, none⟩ = some (.slice L2 a2 x2) ∧ w'.cell? ⟨w.heap.size, 4, none⟩ = some (.slice L3 a3 x3) ∧ w'.cell? ⟨w.heap.size, 5, none⟩ = some (.int .i64 s.cursor))) (by kernel_rfl) (six_of (Blk.drewN HX.out 1)) (fun hHeld => ?_)
 try simp only [Act.put]
 refine wpAnyH_take (i := 0) (v := ?_) rfl (by kernel_rfl) (by kernel_rfl) (by kernel_rfl) (fun _ _ _ h => h) (Or.inl ⟨by rfl, ?_⟩) (by assumption) ?_
 rotate_left 1
 ·intro w hSw
  (try dsimp only at hSw)
  go_simp
  try with_reducible rfl
 try simp only [Act.put]
 refine wpAnyH_take (i := 1) (v := ?_) rfl (by kernel_rfl) (by kernel_rfl) (by kernel_rfl) (fun _ _ _ h => h) (Or.inl ⟨by rfl, ?_⟩) (by assumption) ?_
 rotate_left 1
 ·intro w hSw
  (try dsimp only at hSw)
  go_simp
  try with_reducible rfl
 try simp only [Act.put]
 refine wpAnyH_take (i := 2) (v := ?_) rfl (by kernel_rfl) (by kernel_rfl) (by kernel_rfl) (fun _ _ _ h => h) (Or.inl ⟨by rfl, ?_⟩) (by assumption) ?_
 rotate_left 1
 ·intro w hSw
  (try dsimp only at hSw)
  go_simp
  try with_reducible rfl
 try simp only [Act.put]
 refine wpAnyH_take (i := 3) (v := ?_) rfl (by kernel_rfl) (by kernel_rfl) (by kernel_rfl) (fun _ _ _ h => h) (Or.inl ⟨by rfl, ?_⟩) (by assumption) ?_
 rotate_left 1
 ·intro w hSw
  (try dsimp only at hSw)
  go_simp
  try with_reducible rfl
 try simp only [Act.put]
 refine wpAnyH_take (i := 4) (v := ?_) rfl (by kernel_rfl) (by kernel_rfl) (by kernel_rfl) (fun _ _ _ h => h) (Or.inl ⟨by rfl, ?_⟩) (by assumption) ?_
 rotate_left 1
 ·intro w hSw
  (try dsimp only at hSw)
  go_simp
  try with_reducible rfl
 try simp only [Act.put]
 refine wpAnyH_take (i := 5) (v := ?_) rfl (by kernel_rfl) (by kernel_rfl) (by kernel_rfl) (fun _ _ _ h => h) (Or.inl ⟨by rfl, ?_⟩) (by assumption) ?_
 rotate_left 1
 ·intro w hSw
  (try dsimp only at hSw)
  go_simp
  try with_reducible rfl
 try simp only [Act.put]
 refine wpAnyH_take (i := 7) (v := ?_) rfl (by kernel_rfl) (by kernel_rfl) (by kernel_rfl) (fun _ _ _ h => h) (Or.inl ⟨by rfl, ?_⟩) (by assumption) ?_
 rotate_left 1
 ·intro w hSw
  (try dsimp only at hSw)
  go_simp
  try with_reducible rfl
 try simp only [Act.put]
 refine wpAnyH_take (i := 8) (v := ?_) rfl (by kernel_rfl) (by kernel_rfl) (by kernel_rfl) (fun _ _ _ h => h) (Or.inl ⟨by rfl, ?_⟩) (by assumption) ?_
 rotate_left 1
 ·intro w hSw
  (try dsimp only at hSw)
  go_simp
  try with_reducible rfl
 try simp only [Act.put]
 refine wpAnyH_take (i := 10) (v := ?_) rfl (by kernel_rfl) (by kernel_rfl) (by kernel_rfl) (fun _ _ _ h => h) (Or.inl ⟨by rfl, ?_⟩) (by assumption) ?_
 rotate_left 1
 ·intro w hSw
  (try dsimp only at hSw)
  go_simp
  try with_reducible rfl
 try simp only [Act.put]
 refine wpAnyH_take (i := 11) (v := ?_) rfl (by kernel_rfl) (by kernel_rfl) (by kernel_rfl) (fun _ _ _ h => h) (Or.inl ⟨by rfl, ?_⟩) (by assumption) ?_
 rotate_left 1
 ·intro w hSw
  (try dsimp only at hSw)
  go_simp
  try with_reducible rfl
 try simp only [Act.put]
 refine wpAnyH_take (i := 13) (v := ?_) rfl (by kernel_rfl) (by kernel_rfl) (by kernel_rfl) (fun _ _ _ h => h) (Or.inl ⟨by rfl, ?_⟩) (by assumption) ?_
 rotate_left 1
 ·intro w hSw
  (try dsimp only at hSw)
  go_simp
  try with_reducible rfl
 try simp only [Act.put]
 refine wpAnyH_take (i := 14) (v := ?_) rfl (by kernel_rfl) (by kernel_rfl) (by kernel_rfl) (fun _ _ _ h => h) (Or.inl ⟨by rfl, ?_⟩) (by assumption) ?_
 rotate_left 1
 ·intro w hSw
  (try dsimp only at hSw)
  go_simp
  try with_reducible rfl
 try simp only [Act.put]
 refine wpAnyH_ready (rs := [6]) (by kernel_rfl) (by simp) ?_
 refine AllReadyH.cons rfl (fun K hK => ?_) AllReadyH.nil
 go_simp
 go_at_call 117
 refine (HS1.out _ (HB2.out.drew)).mono ?_
 rintro e w3 ⟨⟨A3, c3, rfl, hi3⟩, hb3⟩
 have HI3 := Lib.hid hi3
 have HB3 := Lib.hid (HB2.out.drew.trans (hb3.mono HB2.out.drew.size))
 have HBS3 := Lib.hid hb3
 have HX3 := Lib.hid (Blk.below (Blk.drewN HX.out 1) hb3 (Blk.drewN HX.out 1).lt)
 have HY3 := Lib.hid (Blk.below (Blk.drewN HY.out 1) hb3 (Blk.drewN HY.out 1).lt)
 clear hi3 hb3
 dsimp only
 refine hK.out _ _ ?_ (fun hHeld => ?_)
 ·exact six_of HX3.out
 clear hK K
 refine wpAnyH_ready (rs := [9]) (by kernel_rfl) (by simp) ?_
 refine AllReadyH.cons rfl (fun K hK => ?_) AllReadyH.nil
 go_simp
 go_at_call 117
 refine (HS2.out _ HB3.out).mono ?_
 rintro e w4 ⟨⟨A4, c4, rfl, hi4⟩, hb4⟩
 have HI4 := Lib.hid hi4
 have HB4 := Lib.hid (HB3.out.trans (hb4.mono HB3.out.size))
 have HBS4 := Lib.hid hb4
 have HX4 := Lib.hid (Blk.below HX3.out hb4 HX3.out.lt)
 have HY4 := Lib.hid (Blk.below HY3.out hb4 HY3.out.lt)
 clear hi4 hb4
 dsimp only
 refine hK.out _ _ ?_ (fun hHeld => ?_)
 ·exact six_of HX4.out
 clear hK K
 refine wpAnyH_ready (rs := [12]) (by kernel_rfl) (by simp) ?_
 refine AllReadyH.cons rfl (fun K hK => ?_) AllReadyH.nil
 go_simp
 go_at_call 117
 refine (HS3.out _ HB4.out).mono ?_
 rintro e w5 ⟨⟨A5, c5, rfl, hi5⟩, hb5⟩
 have HI5 := Lib.hid hi5
 have HB5 := Lib.hid (HB4.out.trans (hb5.mono HB4.out.size))
 have HBS5 := Lib.hid hb5
 have HX5 := Lib.hid (Blk.below HX4.out hb5 HX4.out.lt)
 have hy5 := Blk.below HY4.out hb5 HY4.out.lt
 have HY5 := Lib.hid hy5
 have t0 := hy5.frozen 0
 have t1 := hy5.frozen 1
 have t2 := hy5.frozen 2
 have t3 := hy5.frozen 3
 have t4 := hy5.frozen 4
 have t5 := hy5.frozen 5
 have v0 : w5.cell? ⟨w.heap.size + 1, 0, none⟩ = some (.bool false) := hy5.cell 0
 have v1 : w5.cell? ⟨w.heap.size + 1, 1, none⟩ = some (.bool false) := hy5.cell 1
 have v2 : w5.cell? ⟨w.heap.size + 1, 2, none⟩ = some (.slice none 0 0) := hy5.cell 2
 have v3 : w5.cell? ⟨w.heap.size + 1, 3, none⟩ = some (.slice none 0 0) := hy5.cell 3
 have v4 : w5.cell? ⟨w.heap.size + 1, 4, none⟩ = some (.slice none 0 0) := hy5.cell 4
 have v5 : w5.cell? ⟨w.heap.size + 1, 5, none⟩ = some (.int .i64 0) := hy5.cell 5
 have hl5 := hy5.lt
 have HX6 := Lib.hid (blk_set_ne (g := w.heap.size + 1) (i := 5) (u := .int .i64 s.cursor) (blk_set_ne (g := w.heap.size + 1) (i := 4) (u := .slice A5 a3 c5) (blk_set_ne (g := w.heap.size + 1) (i := 3) (u := .slice A4 a2 c4) (blk_set_ne (g := w.heap.size + 1) (i := 2) (u := .slice A3 a1 c3) (blk_set_ne (g := w.heap.size + 1) (i := 1) (u := .bool s.fin) (blk_set_ne (g := w.heap.size + 1) (i := 0) (u := .bool s.start) HX5.out (by omega)) (by omega)) (by omega)) (by omega)) (by omega)) (by omega))
 clear hy5 hi5 hb5
 dsimp only
 refine hK.out _ _ ?_ (fun hHeld => ?_)
 ·exact six_of HX5.out
 clear hK K
 refine wpAnyH_take (i := 15) (v := ?_) rfl (by kernel_rfl) (by kernel_rfl) (by kernel_rfl) (fun _ _ _ h => h) (Or.inl ⟨by rfl, ?_⟩) (by assumption) ?_
 rotate_left 1
 ·intro w hSw
  (try dsimp only at hSw)
  go_simp
  try with_reducible rfl
 try simp only [Act.put]
 refine wpAnyH_ready (rs := [16]) (by kernel_rfl) (by simp) ?_
 refine AllReadyH.cons rfl (fun K hK => ?_) AllReadyH.nil
 go_simp
 refine hK.out _ _ ?_ (fun hHeld => ?_)
 ·exact six_of HX6.out
 clear hK K
 refine wpAnyH_done (by kernel_rfl) ?_ _
 have hy6 := (((((HY5.out.put 0 (.bool s.start)).put 1 (.bool s.fin)).put 2 (.slice A3 a1 c3)).put 3 (.slice A4 a2 c4)).put 4 (.slice A5 a3 c5)).put 5 (.int .i64 s.cursor)
 have hb6 := (((((HB5.out.setCell (p := ⟨w.heap.size + 1, 0, none⟩) (Nat.le_succ _) (.bool s.start)).setCell (p := ⟨w.heap.size + 1, 1, none⟩) (Nat.le_succ _) (.bool s.fin)).setCell (p := ⟨w.heap.size + 1, 2, none⟩) (Nat.le_succ _) (.slice A3 a1 c3)).setCell (p := ⟨w.heap.size + 1, 3, none⟩) (Nat.le_succ _) (.slice A4 a2 c4)).setCell (p := ⟨w.heap.size + 1, 4, none⟩) (Nat.le_succ _) (.slice A5 a3 c5)).setCell (p := ⟨w.heap.size + 1, 5, none⟩) (Nat.le_succ _) (.int .i64 s.cursor)
 have hd : W2.drew.heap.size = w.heap.size + 2 := hz2
 have hk3 : Keeps w3 (Fr B W2.drew.heap.size) w4 (Fr B (w.heap.size + 2)) := Keeps.below HBS4.out (fun b hb _ => hb.imp id (fun h => by omega))
 have hk4 : Keeps w4 (Fr B (w.heap.size + 2)) w5 (Fr B (w.heap.size + 2)) := Keeps.below HBS5.out (fun b hb _ => hb)
 have hi3 := (HI3.out.keep hk3).keep hk4
 have hz3 := HB3.out.size
 have hz4 := HB4.out.size
 have hbz3 := HBS3.out.size
 have hbz4 := HBS4.out.size
 have hi4 := (HI4.out.keep (Keeps.refl (X' := Fr B (w.heap.size + 2)) (fun b hb => hb.imp id (fun h => by omega)))).keep hk4
 have hi5 := HI5.out.keep (Keeps.refl (X' := Fr B (w.heap.size + 2)) (fun b hb => hb.imp id (fun h => by omega)))
 have hk5 : Keeps w5 (Fr B (w.heap.size + 2)) ((((((w5.setCell ⟨w.heap.size + 1, 0, none⟩ (.bool s.start)).setCell ⟨w.heap.size + 1, 1, none⟩ (.bool s.fin)).setCell ⟨w.heap.size + 1, 2, none⟩ (.slice A3 a1 c3)).setCell ⟨w.heap.size + 1, 3, none⟩ (.slice A4 a2 c4)).setCell ⟨w.heap.size + 1, 4, none⟩ (.slice A5 a3 c5)).setCell ⟨w.heap.size + 1, 5, none⟩ (.int .i64 s.cursor)) (Fr B (w.heap.size + 2)) :=
  Keeps.trans (Keeps.trans (Keeps.trans (Keeps.trans (Keeps.trans (fr_set1 hB) (fr_set1 hB)) (fr_set1 hB)) (fr_set1 hB)) (fr_set1 hB)) (fr_set1 hB)
 have hj3 := (hi3.keep hk5).keep (Keeps.refl (X' := Fr B w.heap.size) (fun b hb => hb.imp id (fun h => by omega)))
 have hj4 := (hi4.keep hk5).keep (Keeps.refl (X' := Fr B w.heap.size) (fun b hb => hb.imp id (fun h => by omega)))
 have hj5 := (hi5.keep hk5).keep (Keeps.refl (X' := Fr B w.heap.size) (fun b hb => hb.imp id (fun h => by omega)))
 clear HI3 HI4 HI5 HB3 HB4 HB5 HBS3 HBS4 HBS5 HX3 HX4 HX5 HX6 HY3 HY4 HY5 HX HY HB2 hHeld hi3 hi4 hi5 hk3 hk4 hk5 t0 t1 t2 t3 t4 t5 v0 v1 v2 v3 v4 v5 hl5
 generalize ((((((w5.setCell ⟨w.heap.size + 1, 0, none⟩ (.bool s.start)).setCell ⟨w.heap.size + 1, 1, none⟩ (.bool s.fin)).setCell ⟨w.heap.size + 1, 2, none⟩ (.slice A3 a1 c3)).setCell ⟨w.heap.size + 1, 3, none⟩ (.slice A4 a2 c4)).setCell ⟨w.heap.size + 1, 4, none⟩ (.slice A5 a3 c5)).setCell ⟨w.heap.size + 1, 5, none⟩ (.int .i64 s.cursor)) = W6 at *
 have r0 : W6.cell? ⟨w.heap.size + 1, 0, none⟩ = some (.bool s.start) := hy6.cell 0
 have r1 : W6.cell? ⟨w.heap.size + 1, 1, none⟩ = some (.bool s.fin) := hy6.cell 1
 have r2 : W6.cell? ⟨w.heap.size + 1, 2, none⟩ = some (.slice A3 a1 c3) := hy6.cell 2
 have r3 : W6.cell? ⟨w.heap.size + 1, 3, none⟩ = some (.slice A4 a2 c4) := hy6.cell 3
 have r4 : W6.cell? ⟨w.heap.size + 1, 4, none⟩ = some (.slice A5 a3 c5) := hy6.cell 4
 have r5 : W6.cell? ⟨w.heap.size + 1, 5, none⟩ = some (.int .i64 s.cursor) := hy6.cell 5
 have HSX := Lib.hid (show SideX W6 (Fr B w.heap.size) (bareS s) [.bool s.start, .bool s.fin, .slice A3 a1 c3, .slice A4 a2 c4, .slice A5 a3 c5, .int .i64 s.cursor] from ⟨A3, a1, c3, A4, a2, c4, A5, a3, c5, rfl, hj3, hj4, hj5, by unfold maxLen; omega, by unfold maxLen; omega, by unfold maxLen; omega, HC.out⟩)
 have HB6 := Lib.hid hb6
 clear hj3 hj4 hj5 hb6 hy6
 go_wp2_with fail
 refine bodyPost_ret (v := .agg #[.bool s.start, .bool s.fin, .slice A3 a1 c3, .slice A4 a2 c4, .slice A5 a3 c5, .int .i64 s.cursor]) (by simp [results, Tryz.results69, go_sem, r0, r1, r2, r3, r4, r5]) rfl ⟨⟨_, rfl, HSX.out⟩, HB6.out⟩
end Go.Proofs.YthnhbcohfoodlaaGreatDoor
