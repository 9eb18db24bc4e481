/- What a pass makes of a piece: passI. The walks of chain.mapped (over Upper, Lower) and chain.pass. -/
import Derived.Test.YtfmebbnccjaadaaCase
import Derived.Test.YtfmebbnccjaadaaPlayTop
import Derived.Test.YtfmebbnccjaadaaPass
namespace Go.Proofs.Ytfmebbnccjaadaa
open Go.RowKit

def MpRel (w : World) (g : Int → Int) (l : List Int) (n : Nat) (s5 i : Value) (wr : World) : Prop :=
  ∃ k : Nat, k ≤ n ∧ i = .int .i64 k ∧ wr.ownsRow w.heap.size 21 1 s5 k (runeCells ((l.map g).take k)) ∧ Below w.heap.size w wr
theorem map_snoc (g : Int → Int) {l : List Int} {k : Nat} {x : Int} (h : l[k]? = some x) : runeCells ((l.map g).take k) ++ runeCells [g x] = runeCells ((l.map g).take (k + 1)) := by
  rw [← runeCells_append, List.take_add_one, List.getElem?_map, h]
  simp

set_option maxRecDepth 100000 in
set_option maxHeartbeats 1600000 in
theorem mapped_upper (A : Option Addr) (n c : Nat) (l : List Int) (w : World) (hn : n ≤ 1000000) (hl : RdR w w.heap.size A n l) :
    Calls Try.prog 105 #[.slice A n c, .func (.func 23) #[] #[]] w fun e w' => (∃ v, e = .returned v ∧ w'.ownsRow w.heap.size 21 1 v n (runeCells (l.map upP))) ∧ Below w.heap.size w w' := by
  obtain ⟨i0, hi, z0, z1, z2⟩ := info_parts Try.info21
  have HLEN := Lib.hid hl.len
  have HL := Lib.hid hl
  clear hl
  go_enter Try.func105, Try.ntmps105
  go_wp2_with fail
  go_loopw [5, 10] (MpRel w upP l n) (fun _ i _ => n - (intOf i).toNat)
  case atStart => exact ⟨0, Nat.zero_le _, rfl, World.ownsRow_nil _ _ _ _, Below.refl _ _⟩
  case round =>
    obtain ⟨k, hk, rfl, hown, hb⟩ := hrel
    have hz := hb.size
    obtain ⟨Av, cv, rfl, _⟩ := own_form hown
    by_cases hlt : k < n
    · obtain ⟨x, hx⟩ : ∃ z, l[k]? = some z := ⟨_, List.getElem?_eq_getElem (by rw [HLEN.out]; exact hlt)⟩
      obtain ⟨b, off, rfl, hbb, c0⟩ := HL.out.at hlt
      rw [show l.getD k 0 = x by simp [List.getD, hx]] at c0
      have d0 := (hb.cell (p := ⟨b, off + k, none⟩) hbb).trans c0
      have HS := Lib.hid (map_snoc upP hx)
      have HO := Lib.hid hown
      have HB := Lib.hid hb
      clear hx c0 hown hb
      go_wp2_with fail
      refine (chain_upper x wr).mono ?_
      rintro e w1 ⟨rfl, hb1⟩
      have HB1 := Lib.hid (HB.out.trans (hb1.mono HB.out.size))
      have HO1 := Lib.hid (World.ownsRow.alloc (own_below HO.out hb1) (.cells #[.int .i32 (upP x)] 21))
      have HB2 := Lib.hid (HB1.out.alloc HB1.out.size (.cells #[.int .i32 (upP x)] 21))
      have HN := Lib.hid (Rd.new w1 21 1 1 [.int .i32 (upP x)] rfl)
      clear hb1
      go_wp2_with (at_builtin; refine wpList_append_rd _ rfl (.tmp 14) (.tmp 18) 23 rfl w.heap.size 21 i0 _ 1 4 Try.underlying23 hi z0 z1 z2 rfl (by decide) _ k _ rfl HO1.out _ (some ⟨w1.heap.size, 0, none⟩) 1 1 (runeCells [upP x]) rfl HN.out (runeCells_one _) (by simp only [maxLen]; omega) (by omega) HB2.out.size ?_)
      intro v9 w9 happ
      have ho9 := happ.own
      rw [HS.out] at ho9
      have HO9 := Lib.hid ho9
      have HB9 := Lib.hid (HB2.out.trans (happ.below HB2.out.size HO1.out))
      clear happ ho9
      go_wp2_with fail
      exact ⟨⟨k + 1, by omega, by go_num, HO9.out, HB9.out⟩, by simp [intOf]; omega⟩
    · obtain rfl : k = n := by omega
      rw [List.take_of_length_le (by rw [List.length_map, HLEN.out]; exact Nat.le_refl _)] at hown
      have HO := Lib.hid hown
      clear hown
      go_wp2_with fail
      go_ret
      exact ⟨⟨_, rfl, HO.out⟩, hb⟩
set_option maxRecDepth 100000 in
set_option maxHeartbeats 1600000 in
theorem mapped_lower (A : Option Addr) (n c : Nat) (l : List Int) (w : World) (hn : n ≤ 1000000) (hl : RdR w w.heap.size A n l) :
    Calls Try.prog 105 #[.slice A n c, .func (.func 25) #[] #[]] w fun e w' => (∃ v, e = .returned v ∧ w'.ownsRow w.heap.size 21 1 v n (runeCells (l.map lowP))) ∧ Below w.heap.size w w' := by
  obtain ⟨i0, hi, z0, z1, z2⟩ := info_parts Try.info21
  have HLEN := Lib.hid hl.len
  have HL := Lib.hid hl
  clear hl
  go_enter Try.func105, Try.ntmps105
  go_wp2_with fail
  go_loopw [5, 10] (MpRel w lowP l n) (fun _ i _ => n - (intOf i).toNat)
  case atStart => exact ⟨0, Nat.zero_le _, rfl, World.ownsRow_nil _ _ _ _, Below.refl _ _⟩
  case round =>
    obtain ⟨k, hk, rfl, hown, hb⟩ := hrel
    have hz := hb.size
    obtain ⟨Av, cv, rfl, _⟩ := own_form hown
    by_cases hlt : k < n
    · obtain ⟨x, hx⟩ : ∃ z, l[k]? = some z := ⟨_, List.getElem?_eq_getElem (by rw [HLEN.out]; exact hlt)⟩
      obtain ⟨b, off, rfl, hbb, c0⟩ := HL.out.at hlt
      rw [show l.getD k 0 = x by simp [List.getD, hx]] at c0
      have d0 := (hb.cell (p := ⟨b, off + k, none⟩) hbb).trans c0
      have HS := Lib.hid (map_snoc lowP hx)
      have HO := Lib.hid hown
      have HB := Lib.hid hb
      clear hx c0 hown hb
      go_wp2_with fail
      refine (chain_lower x wr).mono ?_
      rintro e w1 ⟨rfl, hb1⟩
      have HB1 := Lib.hid (HB.out.trans (hb1.mono HB.out.size))
      have HO1 := Lib.hid (World.ownsRow.alloc (own_below HO.out hb1) (.cells #[.int .i32 (lowP x)] 21))
      have HB2 := Lib.hid (HB1.out.alloc HB1.out.size (.cells #[.int .i32 (lowP x)] 21))
      have HN := Lib.hid (Rd.new w1 21 1 1 [.int .i32 (lowP x)] rfl)
      clear hb1
      go_wp2_with (at_builtin; refine wpList_append_rd _ rfl (.tmp 14) (.tmp 18) 23 rfl w.heap.size 21 i0 _ 1 4 Try.underlying23 hi z0 z1 z2 rfl (by decide) _ k _ rfl HO1.out _ (some ⟨w1.heap.size, 0, none⟩) 1 1 (runeCells [lowP x]) rfl HN.out (runeCells_one _) (by simp only [maxLen]; omega) (by omega) HB2.out.size ?_)
      intro v9 w9 happ
      have ho9 := happ.own
      rw [HS.out] at ho9
      have HO9 := Lib.hid ho9
      have HB9 := Lib.hid (HB2.out.trans (happ.below HB2.out.size HO1.out))
      clear happ ho9
      go_wp2_with fail
      exact ⟨⟨k + 1, by omega, by go_num, HO9.out, HB9.out⟩, by simp [intOf]; omega⟩
    · obtain rfl : k = n := by omega
      rw [List.take_of_length_le (by rw [List.length_map, HLEN.out]; exact Nat.le_refl _)] at hown
      have HO := Lib.hid hown
      clear hown
      go_wp2_with fail
      go_ret
      exact ⟨⟨_, rfl, HO.out⟩, hb⟩
def isUpper (s : ByteArray) : Bool := s.toList == [117, 112, 112, 101, 114]
def isLower (s : ByteArray) : Bool := s.toList == [108, 111, 119, 101, 114]
def isRemove (s : ByteArray) : Bool := s.toList == [114, 101, 109, 111, 118, 101]
def isNull (s : ByteArray) : Bool := s.toList == [110, 117, 108, 108]
def passI (p : PassD) (l : List Int) : List Int × Int :=
  if isUpper p.name = true then (l.map upP, 0) else if isLower p.name = true then (l.map lowP, 0) else if isRemove p.name = true then ([], 0) else if isNull p.name = true then (l, 0) else ((playP p.rules l).1.text, (playP p.rules l).2.1)
def PsPost (Y : Nat → Prop) (lo : Nat) (w' : World) (o : List Int × Int) (e : Ending) : Prop :=
  ∃ (A : Option Addr) (n c : Nat), e = .returned (.tuple #[.slice A n c, .int .i64 o.2]) ∧ RdX w' (fun b => Y b ∨ lo ≤ b) 1 A n (runeCells o.1)
theorem or_own {w : World} {Y : Nat → Prop} {lo n c : Nat} {A : Option Addr} {l : List Int} (h : w.ownsRow lo 21 1 (.slice A n c) n (runeCells l)) : RdX w (fun b => Y b ∨ lo ≤ b) 1 A n (runeCells l) :=
  RdX.of_own h (fun _ hb => .inr (own_lt h hb).1)

set_option maxRecDepth 100000 in
set_option maxHeartbeats 1600000 in
theorem chain_pass (X Y : Nat → Prop) (p : PassD) (Ar A : Option Addr) (nr cr n c : Nat) (l : List Int) (w : World) (hnr : nr ≤ maxLen) (hp : ListX (RuleC w X) w X 7 Ar nr p.rules) (hnm : n ≤ 1000000) (hl : RdX w Y 1 A n (runeCells l)) :
    Calls Try.prog 89 #[.agg #[.string p.name, .slice Ar nr cr], .slice A n c] w fun e w' => PsPost Y w.heap.size w' (passI p l) e ∧ Below w.heap.size w w' := by
  have hb0 := (Below.refl w.heap.size w).alloc (Nat.le_refl _) (.cells #[.string p.name, .slice Ar nr cr] 104)
  have HB0 := Lib.hid hb0
  have HK0 := Lib.hid (Blk.new w 104 #[.string p.name, .slice Ar nr cr])
  have hl0 := hl.keep (Keeps.any hb0)
  have HL0 := Lib.hid hl0
  have HU := Lib.hid (mapped_upper A n c l _ hnm hl0.of)
  have HW := Lib.hid (mapped_lower A n c l _ hnm hl0.of)
  have HV := Lib.hid (vm_runs X p.rules Ar nr cr l A n c _ hnr (hp.keep (Keeps.any hb0) (fun _ _ => RuleC.keep (Keeps.any hb0))) (by simp only [maxLen]; omega) hl0.of)
  clear hb0 hl hp hl0
  have d0 : (w.alloc (.cells #[.string p.name, .slice Ar nr cr] 104)).cell? ⟨w.heap.size, 0, none⟩ = some (.string p.name) := HK0.out.cell 0
  have d1 : (w.alloc (.cells #[.string p.name, .slice Ar nr cr] 104)).cell? ⟨w.heap.size, 1, none⟩ = some (.slice Ar nr cr) := HK0.out.cell 1
  go_enter Try.func89, Try.ntmps89
  cases e1 : isUpper p.name
  · have h1 : (p.name.toList == [117, 112, 112, 101, 114]) = false := e1
    cases e2 : isLower p.name
    · have h2 : (p.name.toList == [108, 111, 119, 101, 114]) = false := e2
      cases e3 : isRemove p.name
      · have h3 : (p.name.toList == [114, 101, 109, 111, 118, 101]) = false := e3
        cases e4 : isNull p.name
        · have h4 : (p.name.toList == [110, 117, 108, 108]) = false := e4
          have HP := Lib.hid (show passI p l = ((playP p.rules l).1.text, (playP p.rules l).2.1) by unfold passI; rw [e1, e2, e3, e4]; rfl)
          clear e1 e2 e3 e4 HU HW
          go_wp2_with fail
          refine HV.out.mono ?_
          rintro e w1 ⟨⟨A', n', c', rfl, hr⟩, hb⟩
          have HB := Lib.hid (HB0.out.trans (hb.mono HB0.out.size))
          obtain ⟨⟨x, st, pt⟩, f1, f2, ho⟩ : ∃ o f1 f2, playP p.rules l = (o, (f1, f2)) := ⟨_, _, _, rfl⟩
          have HPP := Lib.hid (show passI p l = (x, f1) by rw [HP.out, ho])
          rw [ho] at hr ⊢
          dsimp only at hr ⊢
          have hba := (((Below.refl w1.heap.size w1).alloc (Nat.le_refl _) (.cells #[.slice A' n' c', .int .i64 st, .int .i64 pt] 25)).alloc (by simp) (.cells #[.int .i64 f1, .int .i64 f2] 28))
          have HR := Lib.hid ((hr.keep (X' := fun b => Y b ∨ w.heap.size ≤ b) (Keeps.below (Below.refl w1.heap.size w1) (fun b h _ => .inr (Nat.le_trans HB0.out.size h)))).keep (Keeps.any hba))
          have HBF := Lib.hid (HB.out.trans (hba.mono HB.out.size))
          clear hr hb hba HV ho HP
          go_wp2_with fail
          go_quiet (fail)
          go_wp2_with fail
          go_ret2
          rw [HPP.out]
          exact ⟨⟨A', n', c', rfl, HR.out⟩, below_drewN HBF.out nq⟩
        · have h4 : (p.name.toList == [110, 117, 108, 108]) = true := e4
          have HP := Lib.hid (show passI p l = (l, 0) by unfold passI; rw [e1, e2, e3, e4]; rfl)
          clear e1 e2 e3 e4 HU HW HV
          go_wp2_with fail
          go_ret2
          rw [HP.out]
          exact ⟨⟨A, n, c, rfl, HL0.out.keep (Keeps.refl (fun _ h => .inl h))⟩, HB0.out⟩
      · have h3 : (p.name.toList == [114, 101, 109, 111, 118, 101]) = true := e3
        have HP := Lib.hid (show passI p l = ([], 0) by unfold passI; rw [e1, e2, e3]; rfl)
        clear e1 e2 e3 HU HW HV
        go_wp2_with fail
        go_ret2
        rw [HP.out]
        exact ⟨⟨none, 0, 0, rfl, ⟨rfl, fun h => absurd h (Nat.lt_irrefl 0)⟩⟩, HB0.out⟩
    · have h2 : (p.name.toList == [108, 111, 119, 101, 114]) = true := e2
      have HP := Lib.hid (show passI p l = (l.map lowP, 0) by unfold passI; rw [e1, e2]; rfl)
      clear e1 e2 HU HV
      go_wp2_with fail
      refine HW.out.mono ?_
      rintro e w1 ⟨⟨v, rfl, hown⟩, hb⟩
      obtain ⟨Av, cv, rfl, _⟩ := own_form hown
      have HO := Lib.hid (own_mono hown HB0.out.size)
      have HB := Lib.hid (HB0.out.trans (hb.mono HB0.out.size))
      clear hown hb
      go_wp2_with fail
      go_ret2
      rw [HP.out]
      exact ⟨⟨_, _, _, rfl, or_own HO.out⟩, HB.out⟩
  · have h1 : (p.name.toList == [117, 112, 112, 101, 114]) = true := e1
    have HP := Lib.hid (show passI p l = (l.map upP, 0) by unfold passI; rw [e1]; rfl)
    clear e1 HW HV
    go_wp2_with fail
    refine HU.out.mono ?_
    rintro e w1 ⟨⟨v, rfl, hown⟩, hb⟩
    obtain ⟨Av, cv, rfl, _⟩ := own_form hown
    have HO := Lib.hid (own_mono hown HB0.out.size)
    have HB := Lib.hid (HB0.out.trans (hb.mono HB0.out.size))
    clear hown hb
    go_wp2_with fail
    go_ret2
    rw [HP.out]
    exact ⟨⟨_, _, _, rfl, or_own HO.out⟩, HB.out⟩

end Go.Proofs.Ytfmebbnccjaadaa
