/- A list of runes behind match.Runes; the walk of run.First: the first rule that matches at a place of a list. -/
import Derived.Test.YtfmebbnccjaadaaMachAll
import Derived.Test.YtfmebbnccjaadaaRunP
namespace Go.Proofs.Ytfmebbnccjaadaa
open Go.RowKit

theorem method_parts' {t : TypeId} {name : String} {path : List FieldStep} {f : FuncId} (h : (Try.prog.info? t).map (fun i => (i.methods.find? (·.name == name)).map fun m => (m.path.toList, m.func)) = some (some (path, some (f, false)))) :
    ∃ i, Try.prog.info? t = some i ∧ ∃ m, i.methods.find? (·.name == name) = some m ∧ m.path.toList = path ∧ m.func = some (f, false) := by
  obtain ⟨i, hi, h2⟩ := Option.map_eq_some_iff.1 h
  obtain ⟨m, hm, h3⟩ := Option.map_eq_some_iff.1 h2
  simp only [Prod.mk.injEq] at h3
  exact ⟨i, hi, m, hm, h3.1, h3.2⟩
theorem list_len_m (v : Value) (w : World) : (method 299 139 v "Len").run Try.prog w = .ok (147, v) w := by
  obtain ⟨i, hi, m, hm, hp, hf⟩ := method_parts' (t := 139) (name := "Len") (path := []) (f := 147) (by kernel_rfl)
  unfold method
  simp [go_sem, typeInfo, hi, hm, hp, hf, follow, receiverAt, Place.get, loadVar]
theorem list_rune_m (v : Value) (w : World) : (method 299 139 v "Rune").run Try.prog w = .ok (148, v) w := by
  obtain ⟨i, hi, m, hm, hp, hf⟩ := method_parts' (t := 139) (name := "Rune") (path := []) (f := 148) (by kernel_rfl)
  unfold method
  simp [go_sem, typeInfo, hi, hm, hp, hf, follow, receiverAt, Place.get, loadVar]
theorem enters_llen : ∀ args w, (callFunc 147 args).run Try.prog w = .ok (.enter 147 args) w := enters_of Try.func147 (by kernel_rfl) rfl
theorem enters_lrune : ∀ args w, (callFunc 148 args).run Try.prog w = .ok (.enter 148 args) w := enters_of Try.func148 (by kernel_rfl) rfl
theorem list_len (A : Option Addr) (n c : Nat) (w : World) : Calls Try.prog 147 #[.slice A n c] w fun e w' => e = .returned (.int .i64 n) ∧ ∃ k, w' = w.drewN k := by
  go_enter Try.func147, Try.ntmps147
  go_wp2_with fail
  go_ret
  exact ⟨rfl, 0, rfl⟩
theorem list_rune (A : Option Addr) (n c : Nat) (T : List Int) (w : World) (h : RdR w w.heap.size A n T) (hn : n ≤ 100000) (k : Nat) (x : Int) (hx : T[k]? = some x) :
    Calls Try.prog 148 #[.slice A n c, .int .i64 k] w fun e w' => e = .returned (.int .i32 x) ∧ ∃ k, w' = w.drewN k := by
  have hk : k < n := by have := (List.getElem?_eq_some_iff.1 hx).1; have := h.len; omega
  obtain ⟨b, off, e, hb, hc⟩ := h.2 (by omega)
  subst e
  have h0 : w.cell? ⟨b, off + k, none⟩ = some (.int .i32 x) := hc k _ (by simp [runeCells, hx])
  have hk0 : (0 : Int) ≤ (k : Int) := by omega
  have hk1 : (k : Int) < (n : Int) := by omega
  clear hc hx h
  go_enter Try.func148, Try.ntmps148
  go_wp2_with fail
  go_ret
  exact ⟨rfl, 0, rfl⟩
def ListR (A : Option Addr) (n : Nat) (T : List Int) (w : World) : Prop := RdR w w.heap.size A n T
theorem list_text (A : Option Addr) (n c : Nat) (T : List Int) (hn : n ≤ 100000) (hT : T.length = n) : TextI 139 (.slice A n c) (.slice A n c) 147 148 T (ListR A n T) where
  enterL := enters_llen
  enterR := enters_lrune
  ml := fun w _ => list_len_m _ w
  mr := fun w _ => list_rune_m _ w
  len := fun w _ => by rw [hT]; exact list_len A n c w
  rune := fun w k x h hx => list_rune A n c T w h hn k x hx
  keep := fun w w' h hb => (Rd.below h hb).more hb.size

set_option maxRecDepth 100000 in
set_option maxHeartbeats 800000 in
theorem first_one (X : Nat → Prop) (r : RuleD) (A1 A2 A3 A4 At : Option Addr) (n1 c1 n2 c2 n3 c3 n4 c4 nt ct q b1 b2 : Nat) (T : List Int) (w : World) (hr : RightRule r) (s1 : SetsV w X r.before (.slice A1 n1 c1)) (s2 : SetsV w X r.source (.slice A2 n2 c2)) (s3 : SetsV w X r.after (.slice A3 n3 c3)) (s4 : RdX w X 1 A4 n4 (runeCells r.target))
    (hn : nt ≤ 100000) (hq : q ≤ nt) (ht : RdR w w.heap.size At nt T) (h1 : Blk w b1 153 #[.iface 139 (.slice At nt ct)]) (h2 : Blk w b2 3 #[.int .i64 q]) :
    Calls Try.prog 102 #[.agg #[.bool r.start, .bool r.fin, .slice A1 n1 c1, .slice A2 n2 c2, .slice A3 n3 c3, .slice A4 n4 c4, .int .i64 r.cursor], .pointer (some ⟨b1, 0, none⟩), .pointer (some ⟨b2, 0, none⟩)] w fun e w' => e = .returned (.bool (hereP r T q)) ∧ Below w.heap.size w w' := by
  have hba := (Below.refl w.heap.size w).alloc (Nat.le_refl _) (.cells #[.bool r.start, .bool r.fin, .slice A1 n1 c1, .slice A2 n2 c2, .slice A3 n3 c3, .slice A4 n4 c4, .int .i64 r.cursor] 79)
  have hx := Blk.new w 79 #[.bool r.start, .bool r.fin, .slice A1 n1 c1, .slice A2 n2 c2, .slice A3 n3 c3, .slice A4 n4 c4, .int .i64 r.cursor]
  have hra : RuleAt (w.alloc (.cells #[.bool r.start, .bool r.fin, .slice A1 n1 c1, .slice A2 n2 c2, .slice A3 n3 c3, .slice A4 n4 c4, .int .i64 r.cursor] 79)) X r w.heap.size 0 A1 A2 A3 A4 n1 c1 n2 c2 n3 c3 n4 c4 :=
    ⟨hx.lt, hx.cell 0, hx.cell 1, hx.cell 2, hx.cell 3, hx.cell 4, hx.cell 5, hx.cell 6, s1.keep (Keeps.any hba), s2.keep (Keeps.any hba), s3.keep (Keeps.any hba), s4.keep (Keeps.any hba)⟩
  have HH := Lib.hid (match_here (list_text At nt ct T hn ht.len) X r w.heap.size 0 A1 A2 A3 A4 n1 c1 n2 c2 n3 c3 n4 c4 q _ (by rw [ht.len]; exact hn) (by rw [ht.len]; exact hq) hr hra ((Rd.below ht hba).more hba.size))
  have u1 := (h1.alloc (.cells #[.bool r.start, .bool r.fin, .slice A1 n1 c1, .slice A2 n2 c2, .slice A3 n3 c3, .slice A4 n4 c4, .int .i64 r.cursor] 79)).cell 0
  have u2 := (h2.alloc (.cells #[.bool r.start, .bool r.fin, .slice A1 n1 c1, .slice A2 n2 c2, .slice A3 n3 c3, .slice A4 n4 c4, .int .i64 r.cursor] 79)).cell 0
  have HBA := Lib.hid hba
  clear hx hra hba s1 s2 s3 s4 ht h1 h2 hr
  go_enter Try.func102, Try.ntmps102
  go_upto_region 1 with fail
  generalize w.alloc (.cells #[.bool r.start, .bool r.fin, .slice A1 n1 c1, .slice A2 n2 c2, .slice A3 n3 c3, .slice A4 n4 c4, .int .i64 r.cursor] 79) = W1 at *
  go_wp2_with fail
  refine HH.out.mono ?_
  rintro e w2 ⟨rfl, hb2⟩
  have HB2 := Lib.hid (HBA.out.trans (hb2.mono HBA.out.size))
  clear hb2
  go_wp2_with fail
  go_ret
  exact ⟨rfl, HB2.out⟩

def FiRel (w : World) (l : List RuleD) (T : List Int) (q n : Nat) (i : Value) (wr : World) : Prop :=
  ∃ k : Nat, k ≤ n ∧ i = .int .i64 k ∧ whichP l T q = whichIn l T q ((upTo n).drop k) ∧ Below w.heap.size w wr
theorem upTo_d {n k : Nat} (h : k < n) : (upTo n).drop k = (k : Int) :: (upTo n).drop (k + 1) := by
  have hl : k < (upTo n).length := by simp [upTo, h]
  rw [List.drop_eq_getElem_cons hl]
  simp [upTo]
theorem upTo_e (n : Nat) : (upTo n).drop n = [] := by
  apply List.drop_of_length_le
  simp [upTo]

set_option maxRecDepth 100000 in
set_option maxHeartbeats 1600000 in
theorem first_index (X : Nat → Prop) (l : List RuleD) (A At : Option Addr) (n c nt ct q b1 b2 : Nat) (T : List Int) (w : World) (hn : n ≤ maxLen) (hR : ∀ r ∈ l, RightRule r) (hl : ListX (RuleC w X) w X 7 A n l)
    (hnt : nt ≤ 100000) (hq : q ≤ nt) (ht : RdR w w.heap.size At nt T) (h1 : Blk w b1 153 #[.iface 139 (.slice At nt ct)]) (h2 : Blk w b2 3 #[.int .i64 q]) :
    Calls Try.prog 99 #[.slice A n c, .func (.func 102) #[] #[.pointer (some ⟨b1, 0, none⟩), .pointer (some ⟨b2, 0, none⟩)]] w fun e w' => e = .returned (.int .i64 (whichP l T q)) ∧ Below w.heap.size w w' := by
  have HLEN := Lib.hid (show l.length = n from hl.len)
  have HL := Lib.hid hl
  have HT := Lib.hid ht
  have H1 := Lib.hid h1
  have H2 := Lib.hid h2
  have HRR := Lib.hid hR
  have H0 := Lib.hid (show whichP l T q = whichIn l T q ((upTo n).drop 0) by unfold whichP; rw [HLEN.out]; rfl)
  clear hl ht hR h1 h2
  simp only [maxLen] at hn
  go_enter Try.func99, Try.ntmps99
  go_wp2_with fail
  go_loopw [8] (FiRel w l T q n) (fun i _ => n - (intOf i).toNat)
  case atStart => exact ⟨0, Nat.zero_le _, rfl, H0.out, Below.refl _ _⟩
  case round =>
    obtain ⟨k, hk, rfl, hgo, hb⟩ := hrel
    by_cases hlt : k < n
    · obtain ⟨r, hr⟩ : ∃ z, l[k]? = some z := ⟨_, List.getElem?_eq_getElem (by rw [HLEN.out]; exact hlt)⟩
      obtain ⟨b, off, A1, A2, A3, A4, n1, c1, n2, c2, n3, c3, n4, c4, rfl, _, hbb, ⟨d0, d1, d2, d3, d4, d5, d6⟩, s1, s2, s3, s4, hn4⟩ := rule_at (HL.out.keep (Keeps.any hb) (fun _ _ => RuleC.keep (Keeps.any hb))) hr
      rw [upTo_d hlt, whichIn, show hereAt l T q (k : Int) = hereP r T q by unfold hereAt; rw [Int.toNat_natCast, hr]] at hgo
      have HGO := Lib.hid hgo
      have HB := Lib.hid hb
      have HM := Lib.hid (first_one X r A1 A2 A3 A4 At n1 c1 n2 c2 n3 c3 n4 c4 nt ct q b1 b2 T wr (HRR.out r (List.mem_of_getElem? hr)) s1 s2 s3 s4 hnt hq ((Rd.below HT.out hb).more hb.size) (Blk.below H1.out hb H1.out.lt) (Blk.below H2.out hb H2.out.lt))
      clear hgo hr hb s1 s2 s3 s4 hn4
      go_wp2_with fail
      refine HM.out.mono ?_
      rintro e w9 ⟨rfl, hb9⟩
      have HB9 := Lib.hid (HB.out.trans (hb9.mono HB.out.size))
      clear hb9
      cases hh : hereP r T q
      · have HG := Lib.hid (HGO.out.trans (by rw [hh, if_neg (by decide)]))
        clear hh
        go_wp2_with fail
        exact ⟨⟨k + 1, by omega, by go_num, HG.out, HB9.out⟩, by simp [intOf]; omega⟩
      · have HG := Lib.hid (HGO.out.trans (by rw [hh, if_pos rfl]))
        clear hh
        go_wp2_with fail
        go_ret
        exact ⟨ret_int HG.out.symm, HB9.out⟩
    · obtain rfl : k = n := by omega
      rw [upTo_e, whichIn] at hgo
      have HG := Lib.hid hgo
      clear hgo
      go_wp2_with fail
      go_ret
      exact ⟨ret_int HG.out.symm, hb⟩

set_option maxRecDepth 100000 in
theorem run_first (X : Nat → Prop) (l : List RuleD) (A At : Option Addr) (n c nt ct q : Nat) (T : List Int) (w : World) (hn : n ≤ maxLen) (hR : ∀ r ∈ l, RightRule r) (hl : ListX (RuleC w X) w X 7 A n l)
    (hnt : nt ≤ 100000) (hq : q ≤ nt) (ht : RdR w w.heap.size At nt T) :
    Calls Try.prog 85 #[.slice A n c, .iface 139 (.slice At nt ct), .int .i64 q] w fun e w' => e = .returned (.int .i64 (whichP l T q)) ∧ Below w.heap.size w w' := by
  have hba := ((Below.refl w.heap.size w).alloc (Nat.le_refl _) (.cells #[.iface 139 (.slice At nt ct)] 153)).alloc (by simp) (.cells #[.int .i64 q] 3)
  have H := Lib.hid (first_index X l A At n c nt ct q w.heap.size (w.heap.size + 1) T _ hn hR (hl.keep (Keeps.any hba) (fun _ _ => RuleC.keep (Keeps.any hba))) hnt hq ((Rd.below ht hba).more hba.size) (Blk.alloc (Blk.new w _ _) _) (by
    have := Blk.new (w.alloc (.cells #[.iface 139 (.slice At nt ct)] 153)) 3 #[.int .i64 q]
    simpa using this))
  have HBA := Lib.hid hba
  clear hba hl ht hR
  go_enter Try.func85, Try.ntmps85
  go_wp2_with fail
  refine H.out.mono ?_
  rintro e w2 ⟨rfl, hb2⟩
  have HB2 := Lib.hid (HBA.out.trans (hb2.mono HBA.out.size))
  clear hb2
  go_wp2_with fail
  go_ret
  exact ⟨rfl, HB2.out⟩

end Go.Proofs.Ytfmebbnccjaadaa
