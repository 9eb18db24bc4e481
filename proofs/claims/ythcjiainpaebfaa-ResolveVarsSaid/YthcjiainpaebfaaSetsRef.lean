/- The sets of a pattern, by the document's answer: the walk of scriptref6.sets: setsP. -/
import Derived.Test.YthcjiainpaebfaaLookRef
import Derived.Test.YthcjiainpaebfaaItemOk
import Derived.Deep.DeepCutAuto
namespace Go.Proofs.Ythcjiainpaebfaa
open Go.RowKit

theorem infoSets : (Try.prog.info? 23).map (fun i => (i.zero, i.size, i.bytes)) = some (some (.slice none 0 0), 1, 24) := by kernel_rfl

/-- The blocks that were there, below B, and those that the call has made, from lo on. -/
def Fr (B lo : Nat) (b : Nat) : Prop := b < B ∨ lo ≤ b
/-- The same, without the block of the row v. -/
def FrN (B lo : Nat) (v : Value) (b : Nat) : Prop := Fr B lo b ∧ v.ownBlock ≠ some b
/-- A list of sets that the call is building. -/
def StAt (w : World) (B : Nat) (ll : List Spans) (v : Value) (wx : World) : Prop := OwnL (SetC wx (FrN B w.heap.size v)) 23 1 wx w.heap.size v ll ∧ Below w.heap.size w wx
section
variable {w wx w2 : World} {B : Nat} {ll : List Spans} {v v' : Value}
theorem StAt.nil (w : World) (B : Nat) : StAt w B [] (.slice none 0 0) w := ⟨OwnL.nil _ _, Below.refl _ _⟩
theorem StAt.alloc (h : StAt w B ll v wx) (o : Obj) : StAt w B ll v (wx.alloc o) :=
  ⟨h.1.kept (fun _ _ h => World.ownsRow.alloc h o) (fun _ _ h => h.keep (Keeps.alloc o (fun _ h _ => h))), h.2.alloc h.2.size o⟩
theorem StAt.below (h : StAt w B ll v wx) (hb : Below wx.heap.size wx w2) : StAt w B ll v w2 :=
  ⟨h.1.kept (fun _ _ h => own_below h hb) (fun _ _ h => h.keep (Keeps.below hb (fun _ h _ => h))), h.2.trans (hb.mono h.2.size)⟩
theorem own_lt {base sz n : Nat} {e : TypeId} {xs : List Value} (h : wx.ownsRow base e sz v n xs) {b : Nat} (hb : v.ownBlock = some b) : base ≤ b ∧ b < wx.heap.size := World.ownsRow.lt h b hb
theorem own_free {base sz n : Nat} {e : TypeId} {xs : List Value} (h : wx.ownsRow base e sz v n xs) {b : Nat} (hb : b < base ∨ wx.heap.size ≤ b) : v.ownBlock ≠ some b := fun e => by
  have := own_lt h e
  omega
/-- One set more. -/
theorem StAt.push {css : List (List Value)} {s : Spans} {u : Value} {t : TypeId} (h1 : css.length = ll.length) (h2 : ∀ (i : Nat) (a : Spans) (cs : List Value), ll[i]? = some a → css[i]? = some cs → SetC wx (FrN B w.heap.size v) a cs) (h3 : ∀ cs ∈ css, cs.length = 1)
    (h4 : wx.ownsRow w.heap.size 23 1 v ll.length css.flatten) (hb : Below w.heap.size w wx) (hu : SetV wx (FrN B w.heap.size v) s u)
    (ha : Appended w.heap.size 23 1 v (wx.alloc (.cells #[u] t)) (ll.length + 1) (css.flatten ++ [u]) v' w2) : StAt w B (ll ++ [s]) v' w2 := by
  have hk : Keeps wx (FrN B w.heap.size v) w2 (FrN B w.heap.size v') := by
    refine (Keeps.alloc (.cells #[u] t) (fun _ h _ => h)).trans (Keeps.app (X' := fun b => FrN B w.heap.size v' b) ha (fun b hx => hx.2) (fun b hx hl => ⟨hx.1, ?_⟩))
    rcases ha.2.2 with e | e
    · rw [e]; exact hx.2
    · rw [e]
      intro he
      injection he with he
      omega
  refine ⟨OwnL.push h1 h2 h3 (fun _ _ h => h.keep hk) ⟨u, rfl, hu.keep hk⟩ rfl ha, ?_⟩
  exact (hb.alloc hb.size (.cells #[u] t)).trans (ha.below (hb.alloc hb.size (.cells #[u] t)).size (World.ownsRow.alloc h4 _))
end
/-- What the sets of a pattern are told by. -/
def StPost (w : World) (B lo : Nat) (r : Option (List Spans)) (e : Ending) : Prop :=
  match r with
  | some ll => ∃ u, e = .returned (.tuple #[u, .bool true]) ∧ SetsV w (Fr B lo) ll u
  | none => e = .returned (.tuple #[.slice none 0 0, .bool false])
theorem StAt.post {w wx : World} {B : Nat} {ll : List Spans} {v : Value} (h : StAt w B ll v wx) (hl : ll.length ≤ maxLen) : SetsV wx (Fr B w.heap.size) ll v := by
  obtain ⟨A, c, rfl, _⟩ := h.1.form
  refine ⟨A, _, c, rfl, OwnL.done h.1 (fun _ _ h => h.keep (Keeps.refl (fun _ h => h.1))) (fun b hb => .inr ?_), hl⟩
  obtain ⟨css, _, _, _, h4⟩ := h.1
  exact (own_lt h4 hb).1

def SrRel (w : World) (B : Nat) (l : List PartD) (L : List ItemD) (n : Nat) (out i : Value) (wr : World) : Prop :=
  ∃ (k : Nat) (ll : List Spans), k ≤ n ∧ i = .int .i64 k ∧ setsP l (L.take k) = some ll ∧ StAt w B ll out wr

set_option maxRecDepth 100000 in
set_option maxHeartbeats 3200000 in
theorem ref_sets (A : Option Addr) (n c : Nat) (l : List PartD) (m : Nat) (A2 : Option Addr) (n2 c2 : Nat) (L : List ItemD) (w : World) (B : Nat) (hB : B ≤ w.heap.size) (hn : n ≤ maxLen) (hm : m ≤ n) (hl : RdP w B A n l) (hL : RdIt w B A2 n2 L) (hok : itemsP L = 0) :
    Calls Try.prog 30 #[.slice A n c, .int .i64 m, .slice A2 n2 c2] w fun e w' => StPost w' B w.heap.size (setsP (l.take m) L) e ∧ Below w.heap.size w w' := by
  obtain ⟨i0, hi, hz0, hz1, hz2⟩ := info_parts infoSets
  obtain ⟨h20, hall⟩ := items_ok hok
  have hn20 : n2 ≤ 20 := by rw [← RdL.len hL]; exact h20
  have HLEN := Lib.hid (RdL.len hL)
  have HL := Lib.hid hL
  have HA := Lib.hid hall
  have HLK := Lib.hid (fun (s : ByteArray) (w' : World) (hb : Below w.heap.size w w') => ref_look A n c l m s w' B (Nat.le_trans hB hb.size) hn hm (RdP.weak (weak_of (hb.mono hB) (Nat.le_refl _)) hl))
  clear hl hL hok h20 hall hn hm
  generalize l.take m = LP at *
  go_enter Try.func30, Try.ntmps30
  go_wp2_with fail
  go_loopw [8, 15] (SrRel w B LP L n2) (fun _ i _ => n2 - (intOf i).toNat)
  case atStart => exact ⟨0, [], Nat.zero_le _, rfl, rfl, StAt.nil w B⟩
  case round =>
    obtain ⟨k, ll, hk, rfl, hgo, hst⟩ := hrel
    have hll := setsP_len hgo
    have hll2 : ll.length ≤ k := by rw [hll]; exact List.length_take_le _ _
    clear hll
    have hz := hst.2.size
    by_cases hlt : k < n2
    · obtain ⟨a, ha⟩ : ∃ z, L[k]? = some z := ⟨_, List.getElem?_eq_getElem (by rw [HLEN.out]; exact hlt)⟩
      have hka := item_kinds (HA.out a (List.mem_of_getElem? ha))
      obtain ⟨b, off, A', n', c', rfl, hbb, f0, f1, f2, f3, hset, hn', _, _⟩ := item_at HL.out ha
      have hbw : b < w.heap.size := by omega
      have d0 := (hst.2.cell (p := ⟨b, off + k * 4, none⟩) hbw).trans f0
      have d1 := (hst.2.cell (p := ⟨b, off + k * 4 + 1, none⟩) hbw).trans f1
      have d2 := (hst.2.cell (p := ⟨b, off + k * 4 + 2, none⟩) hbw).trans f2
      have d3 := (hst.2.cell (p := ⟨b, off + k * 4 + 3, none⟩) hbw).trans f3
      clear f0 f1 f2 f3
      have HSET := Lib.hid (show SetV w (· < B) a.set (.slice A' n' c') from ⟨A', n', c', rfl, RdX.of_rd hset hB (fun _ h => h), hn'⟩)
      have HS1 := Lib.hid (StAt.alloc hst (.cells #[.int .i64 a.kind, .int .i32 a.rune, .slice A' n' c', .string a.name] 43))
      have HK1 := Lib.hid (Blk.new wr 43 #[.int .i64 a.kind, .int .i32 a.rune, .slice A' n' c', .string a.name])
      have HGO := Lib.hid hgo
      have HA1 := Lib.hid ha
      clear hset hn' hgo hst
      rcases hka with ⟨hk1, hk2⟩ | ⟨hk1, hk2⟩ | ⟨hk1, hk2⟩
      · have HSP := Lib.hid (show setP LP a = some [(a.rune, a.rune)] by unfold setP; rw [if_pos hk1])
        have q1 : (a.kind == 1) = true := by rw [hk1]; rfl
        have q3 : (a.kind == 3) = false := by rw [hk1]; rfl
        clear hk1 hk2
        go_upto_region 9 with fail
        have hsx := StAt.alloc HS1.out (.cells #[.int .i32 a.rune, .int .i32 a.rune] 69)
        have hkx := Blk.alloc HK1.out (.cells #[.int .i32 a.rune, .int .i32 a.rune] 69)
        have hux := RdX.new (w := wr.alloc (.cells #[.int .i64 a.kind, .int .i32 a.rune, .slice A' n' c', .string a.name] 43)) (X := FrN B w.heap.size u8) (n := 1) (sz := 2) 69 [.int .i32 a.rune, .int .i32 a.rune] rfl (by
          obtain ⟨⟨css, g1, g2, g3, g4⟩, g5⟩ := HS1.out
          exact ⟨.inr g5.size, own_free g4 (.inr (Nat.le_refl _))⟩)
        rw [show (wr.alloc (.cells #[.int .i64 a.kind, .int .i32 a.rune, .slice A' n' c', .string a.name] 43)).heap.size = wr.heap.size + 1 by simp] at hux
        generalize (wr.alloc (.cells #[.int .i64 a.kind, .int .i32 a.rune, .slice A' n' c', .string a.name] 43)).alloc (.cells #[.int .i32 a.rune, .int .i32 a.rune] 69) = wx at *
        have HSX := Lib.hid hsx
        have HU := Lib.hid (show SetV wx (FrN B w.heap.size u8) [(a.rune, a.rune)] (.slice (some ⟨wr.heap.size + 1, 0, none⟩) 1 1) from ⟨_, _, _, rfl, hux, by decide⟩)
        have e0 : wx.cell? ⟨wr.heap.size, 0, none⟩ = some (.int .i64 a.kind) := hkx.cell 0
        clear hsx hkx hux
        obtain ⟨⟨css, g1, g2, g3, g4⟩, g5⟩ := HSX.out
        have HN := Lib.hid (Rd.new wx 23 1 1 [(.slice (some ⟨wr.heap.size + 1, 0, none⟩) 1 1)] rfl)
        have HO := Lib.hid (World.ownsRow.alloc g4 (.cells #[(.slice (some ⟨wr.heap.size + 1, 0, none⟩) 1 1)] 23))
        have HZ := Lib.hid (Nat.le_trans g5.size (show wx.heap.size ≤ (wx.alloc (.cells #[(.slice (some ⟨wr.heap.size + 1, 0, none⟩) 1 1)] 23)).heap.size by simp))
        have G1 := Lib.hid g1
        have G2 := Lib.hid g2
        have G3 := Lib.hid g3
        have G4 := Lib.hid g4
        have G5 := Lib.hid g5
        clear g1 g2 g3 g4 g5
        go_wp2_with (at_builtin; refine wpList_append_rd _ rfl (.tmp 43) (.tmp 45) 56 rfl w.heap.size 23 i0 _ 1 24 Try.underlying56 hi hz0 hz1 hz2 rfl (by decide) _ _ _ rfl HO.out _ (some ⟨wx.heap.size, 0, none⟩) 1 1 [(.slice (some ⟨wr.heap.size + 1, 0, none⟩) 1 1)] rfl HN.out ?one1 (by simp only [maxLen]; omega) (by omega) HZ.out ?_)
        case one1 => intro x hx; simp at hx; subst hx; rfl
        intro v9 w9 happ
        have HST := Lib.hid (StAt.push G1.out G2.out G3.out G4.out G5.out HU.out happ)
        clear happ
        go_wp2_with fail
        exact ⟨⟨k + 1, ll ++ [_], by omega, by go_num, setsP_step HA1.out HGO.out HSP.out, HST.out⟩, by simp [intOf]; omega⟩
      · have HSP := Lib.hid (show setP LP a = some a.set by unfold setP; rw [hk1, if_neg (by decide), if_pos rfl])
        have q1 : (a.kind == 1) = false := by rw [hk1]; rfl
        have q3 : (a.kind == 3) = false := by rw [hk1]; rfl
        clear hk1 hk2
        go_upto_region 9 with fail
        have hkx := HK1.out
        have hsx := HS1.out
        generalize wr.alloc (.cells #[.int .i64 a.kind, .int .i32 a.rune, .slice A' n' c', .string a.name] 43) = wx at *
        have HSX := Lib.hid hsx
        have HU := Lib.hid (show SetV wx (FrN B w.heap.size u8) a.set (.slice A' n' c') from SetV.keep (Keeps.below hsx.2 (fun b hb _ => by
          obtain ⟨⟨css, g1, g2, g3, g4⟩, g5⟩ := hsx
          exact ⟨.inl hb, own_free g4 (.inl (Nat.lt_of_lt_of_le hb hB))⟩)) HSET.out)
        have e0 : wx.cell? ⟨wr.heap.size, 0, none⟩ = some (.int .i64 a.kind) := hkx.cell 0
        clear hsx hkx
        obtain ⟨⟨css, g1, g2, g3, g4⟩, g5⟩ := HSX.out
        have HN := Lib.hid (Rd.new wx 23 1 1 [(.slice A' n' c')] rfl)
        have HO := Lib.hid (World.ownsRow.alloc g4 (.cells #[(.slice A' n' c')] 23))
        have HZ := Lib.hid (Nat.le_trans g5.size (show wx.heap.size ≤ (wx.alloc (.cells #[(.slice A' n' c')] 23)).heap.size by simp))
        have G1 := Lib.hid g1
        have G2 := Lib.hid g2
        have G3 := Lib.hid g3
        have G4 := Lib.hid g4
        have G5 := Lib.hid g5
        clear g1 g2 g3 g4 g5
        go_wp2_with (at_builtin; refine wpList_append_rd _ rfl (.tmp 43) (.tmp 45) 56 rfl w.heap.size 23 i0 _ 1 24 Try.underlying56 hi hz0 hz1 hz2 rfl (by decide) _ _ _ rfl HO.out _ (some ⟨wx.heap.size, 0, none⟩) 1 1 [(.slice A' n' c')] rfl HN.out ?one2 (by simp only [maxLen]; omega) (by omega) HZ.out ?_)
        case one2 => intro x hx; simp at hx; subst hx; rfl
        intro v9 w9 happ
        have HST := Lib.hid (StAt.push G1.out G2.out G3.out G4.out G5.out HU.out happ)
        clear happ
        go_wp2_with fail
        exact ⟨⟨k + 1, ll ++ [_], by omega, by go_num, setsP_step HA1.out HGO.out HSP.out, HST.out⟩, by simp [intOf]; omega⟩
      · have hsp : setP LP a = lookP LP a.name := by unfold setP; rw [hk1, if_neg (by decide), if_neg (by decide)]
        have q1 : (a.kind == 1) = false := by rw [hk1]; rfl
        have q3 : (a.kind == 3) = true := by rw [hk1]; rfl
        clear hk1 hk2
        go_upto_region 9 with fail
        have hkx := HK1.out
        have hsx := HS1.out
        generalize wr.alloc (.cells #[.int .i64 a.kind, .int .i32 a.rune, .slice A' n' c', .string a.name] 43) = wx at *
        have HSX := Lib.hid hsx
        have e0 : wx.cell? ⟨wr.heap.size, 0, none⟩ = some (.int .i64 a.kind) := hkx.cell 0
        have e3 : wx.cell? ⟨wr.heap.size, 3, none⟩ = some (.string a.name) := hkx.cell 3
        have HLK2 := Lib.hid (HLK.out a.name wx hsx.2)
        clear hsx hkx
        cases hlk : lookP LP a.name with
        | none =>
          have HSP := Lib.hid (hsp.trans hlk)
          have HLN := Lib.hid hlk
          clear hsp hlk
          go_wp2_with fail
          refine HLK2.out.mono ?_
          rintro e w8 ⟨he, rfl⟩
          rw [HLN.out] at he
          unfold LkPost at he
          subst he
          go_wp2_with fail
          go_ret2
          rw [setsP_none HA1.out HSP.out]
          exact ⟨rfl, HSX.out.2⟩
        | some s =>
          have HSP := Lib.hid (hsp.trans hlk)
          have HLN := Lib.hid hlk
          clear hsp hlk
          go_wp2_with fail
          refine HLK2.out.mono ?_
          rintro e w8 ⟨he, rfl⟩
          rw [HLN.out] at he
          obtain ⟨u, rfl, hu⟩ := he
          have hu2 := hu
          obtain ⟨A7, n7, c7, rfl, _⟩ := hu2
          have HU := Lib.hid (show SetV wx (FrN B w.heap.size u8) s (.slice A7 n7 c7) from SetV.keep (Keeps.refl (fun b hb => by
            obtain ⟨⟨css, g1, g2, g3, g4⟩, g5⟩ := HSX.out
            exact ⟨.inl hb, own_free g4 (.inl (Nat.lt_of_lt_of_le hb hB))⟩)) hu)
          clear hu
          obtain ⟨⟨css, g1, g2, g3, g4⟩, g5⟩ := HSX.out
          have HN := Lib.hid (Rd.new wx 23 1 1 [(.slice A7 n7 c7)] rfl)
          have HO := Lib.hid (World.ownsRow.alloc g4 (.cells #[(.slice A7 n7 c7)] 23))
          have HZ := Lib.hid (Nat.le_trans g5.size (show wx.heap.size ≤ (wx.alloc (.cells #[(.slice A7 n7 c7)] 23)).heap.size by simp))
          have G1 := Lib.hid g1
          have G2 := Lib.hid g2
          have G3 := Lib.hid g3
          have G4 := Lib.hid g4
          have G5 := Lib.hid g5
          clear g1 g2 g3 g4 g5
          go_wp2_with (at_builtin; refine wpList_append_rd _ rfl (.tmp 43) (.tmp 45) 56 rfl w.heap.size 23 i0 _ 1 24 Try.underlying56 hi hz0 hz1 hz2 rfl (by decide) _ _ _ rfl HO.out _ (some ⟨wx.heap.size, 0, none⟩) 1 1 [(.slice A7 n7 c7)] rfl HN.out ?one3 (by simp only [maxLen]; omega) (by omega) HZ.out ?_)
          case one3 => intro x hx; simp at hx; subst hx; rfl
          intro v9 w9 happ
          have HST := Lib.hid (StAt.push G1.out G2.out G3.out G4.out G5.out HU.out happ)
          clear happ
          go_wp2_with fail
          exact ⟨⟨k + 1, ll ++ [_], by omega, by go_num, setsP_step HA1.out HGO.out HSP.out, HST.out⟩, by simp [intOf]; omega⟩
    · obtain rfl : k = n2 := by omega
      rw [List.take_of_length_le (by rw [HLEN.out]; omega)] at hgo
      have HG := Lib.hid hgo
      have HS := Lib.hid hst
      clear hgo hst
      obtain ⟨AO, cO, rfl, _⟩ := HS.out.1.form
      go_wp2_with fail
      go_ret2
      rw [HG.out]
      exact ⟨⟨_, rfl, StAt.post HS.out (by unfold maxLen; omega)⟩, HS.out.2⟩

end Go.Proofs.Ythcjiainpaebfaa
