/- The closure put of scriptlaw6.ResolveVars: each variable's set in the place of its name. -/
import Derived.Test.YthcjiainpaebfaaVarsA
import Derived.Deep.RegionHeldLaw
import Derived.RowKit
namespace Go.Proofs.Ythcjiainpaebfaa
open Go.RowKit Go.Maps

def PuRel (w : World) (X : Nat → Prop) (f : ByteArray → Spans) (l : List ItemD) (n : Nat) (m i : Value) (wr : World) : Prop :=
  ∃ (k : Nat), k ≤ n ∧ i = .int .i64 k ∧ OwnL (ItemX w X) 43 4 wr w.heap.size m ((l.take k).map (putI f)) ∧ Below w.heap.size w wr
section
variable {w : World} {X : Nat → Prop} {p : ItemD} {f : ByteArray → Spans}
theorem put_3 (h : p.kind = 3) {A : Option Addr} {n c : Nat} (hs : RdX w X 2 A n (spanCells (f p.name))) (hn : n ≤ maxLen) : ItemX w X (putI f p) [.int .i64 2, .int .i32 0, .slice A n c, .string ⟨#[]⟩] := by
  have e : putI f p = ⟨2, 0, f p.name, ⟨#[]⟩⟩ := by unfold putI; simp [h]
  rw [e]
  exact ⟨A, n, c, rfl, hs, hn, by unfold i64R; dsimp only; omega, Nat.zero_le _⟩
theorem put_no (h : p.kind ≠ 3) : putI f p = p := by unfold putI; rw [if_neg h]
end
theorem EnvM.had {w : World} {X : Nat → Prop} {mb n : Nat} {L : List PartD} (h : EnvM w X mb n L) : ∃ D : DataW Value, (∀ w', Below w.heap.size w w' → w'.ownsMap Try.prog 9 Raw mb n D) ∧ ∀ s, ∃ A m c, D.atKey (keyL s) nilH = .held (.slice A m c) ∧ RdX w X 2 A m (spanCells (hadP L s)) ∧ m ≤ maxLen := by
  obtain ⟨D, ⟨es, clock, h1, h2⟩, _, h4⟩ := h
  have hlt := (Array.getElem?_eq_some_iff.1 h1).1
  refine ⟨D, fun w' hb => ⟨es, clock, (hb.block _ hlt).trans h1, h2⟩, fun s => ?_⟩
  have := h4 s
  unfold hadP
  cases hl : lookP L s with
  | none =>
    rw [hl] at this
    exact ⟨none, 0, 0, this.1, RdX.nil 2, Nat.zero_le _⟩
  | some set =>
    rw [hl] at this
    obtain ⟨u, g1, _, A, m, c, rfl, g3, g4⟩ := this
    exact ⟨A, m, c, g1, g3, g4⟩
set_option maxRecDepth 100000 in
set_option maxHeartbeats 3200000 in
theorem vars_put (X : Nat → Prop) (mb gh N : Nat) (L : List PartD) (A : Option Addr) (n c : Nat) (l : List ItemD) (w : World) (hgh : Blk w gh 41 #[.map (some mb)]) (hm : EnvM w X mb N L) (hn : n ≤ 20) (hl : ItemsX w X A n l) :
    Calls Try.prog 11 #[.slice A n c, .pointer (some ⟨gh, 0, none⟩)] w fun e w' => (∃ A' c', e = .returned (.slice A' n c') ∧ ItemsX w' (fun b => X b ∨ w.heap.size ≤ b) A' n (l.map (putI (hadP L)))) ∧ Below w.heap.size w w' := by
  obtain ⟨i0, hi, hz0, hz1, hz2⟩ := info_parts infoItem
  obtain ⟨D, hD, hat⟩ := hm.had
  generalize hadP L = f at *
  have HLEN := Lib.hid hl.len
  have HL := Lib.hid hl
  have HD := Lib.hid hD
  have HAT := Lib.hid hat
  have HGH := Lib.hid hgh
  have hn2 : n ≤ 9223372036854775807 := by omega
  clear hl hD hat hgh hm
  go_enter Try.func11, Try.ntmps11
  go_wp2_with fail
  go_loopw [4, 9] (PuRel w X f l n) (fun _ i _ => n - (intOf i).toNat)
  case atStart => exact ⟨0, Nat.zero_le _, rfl, OwnL.nil _ _, Below.refl _ _⟩
  case round =>
    obtain ⟨k, hk, rfl, hown, hb⟩ := hrel
    by_cases hlt : k < n
    · obtain ⟨p, hp⟩ : ∃ z, l[k]? = some z := ⟨_, List.getElem?_eq_getElem (by rw [HLEN.out]; exact hlt)⟩
      obtain ⟨b, off, cs, rfl, hbb, hbl, hpc, _, hfc⟩ := ListX.at HL.out hp
      have HPC := Lib.hid hpc
      obtain ⟨A', n', c', rfl, hset, hn', hkd, hnm⟩ := hpc
      have d0 : wr.cell? ⟨b, off + k * 4, none⟩ = some (.int .i64 p.kind) := (hb.cell (p := ⟨b, off + k * 4, none⟩) hbl).trans (hfc 0 _ rfl)
      have d1 : wr.cell? ⟨b, off + k * 4 + 1, none⟩ = some (.int .i32 p.rune) := (hb.cell (p := ⟨b, off + k * 4 + 1, none⟩) hbl).trans (hfc 1 _ rfl)
      have d2 : wr.cell? ⟨b, off + k * 4 + 2, none⟩ = some (.slice A' n' c') := (hb.cell (p := ⟨b, off + k * 4 + 2, none⟩) hbl).trans (hfc 2 _ rfl)
      have d3 : wr.cell? ⟨b, off + k * 4 + 3, none⟩ = some (.string p.name) := (hb.cell (p := ⟨b, off + k * 4 + 3, none⟩) hbl).trans (hfc 3 _ rfl)
      have HOWN := Lib.hid hown
      have HB := Lib.hid hb
      have HX := Lib.hid (And.intro (Blk.new wr 43 #[.int .i64 p.kind, .int .i32 p.rune, .slice A' n' c', .string p.name]) ((Below.refl wr.heap.size wr).alloc (Nat.le_refl _) (.cells #[.int .i64 p.kind, .int .i32 p.rune, .slice A' n' c', .string p.name] 43)))
      have HTK2 := Lib.hid (show (l.take (k + 1)).map (putI f) = (l.take k).map (putI f) ++ [putI f p] by rw [take_snoc hp, List.map_append]; rfl)
      have hml : ((l.take k).map (putI f)).length = k := by rw [List.length_map, List.length_take, HLEN.out]; omega
      clear hfc hown hb hp hset hkd
      go_upto_if 15 with fail
      have x0 := HX.out.1
      have x2 := HX.out.2
      clear HX d0 d1 d2 d3
      generalize (wr.alloc (.cells #[.int .i64 p.kind, .int .i32 p.rune, .slice A' n' c', .string p.name] 43)) = W2 at *
      have e3 : W2.cell? ⟨wr.heap.size, 3, none⟩ = some (.string p.name) := x0.cell 3
      have e0 : W2.cell? ⟨wr.heap.size, 0, none⟩ = some (.int .i64 p.kind) := x0.cell 0
      have e1 : W2.cell? ⟨wr.heap.size, 1, none⟩ = some (.int .i32 p.rune) := x0.cell 1
      have e2 : W2.cell? ⟨wr.heap.size, 2, none⟩ = some (.slice A' n' c') := x0.cell 2
      have f0 := x0.frozen 0
      have f1 := x0.frozen 1
      have f2 := x0.frozen 2
      have f3 := x0.frozen 3
      have hb2 := HB.out.trans (x2.mono HB.out.size)
      have gg : W2.cell? ⟨gh, 0, none⟩ = some (.map (some mb)) := (Blk.below HGH.out hb2 HGH.out.lt).cell 0
      have HM2 := Lib.hid (HD.out _ hb2)
      have HX1 := Lib.hid x0
      have HX2 := Lib.hid x2
      have hlx := x0.lt
      clear x0 x2 hb2
      go_cut [] (fun wx => ∃ cs : List Value, ItemX w X (putI f p) cs ∧ Blk wx wr.heap.size 43 cs.toArray ∧ Below wr.heap.size wr wx)
      case first =>
        by_cases h : p.kind = 3
        · have q1 : (p.kind == 3) = true := by simpa using h
          obtain ⟨Ah, nh, ch, hkey, hrd, hnh⟩ := HAT.out p.name
          have HI := Lib.hid (put_3 (f := f) (c := ch) h hrd hnh)
          have HKEY := Lib.hid hkey
          have s1 : Blk (W2.setCell ⟨wr.heap.size, 0, none⟩ (.int .i64 2)) wr.heap.size 43 #[.int .i64 2, .int .i32 p.rune, .slice A' n' c', .string p.name] := HX1.out.put 0 (.int .i64 2)
          have s2 : Blk ((W2.setCell ⟨wr.heap.size, 0, none⟩ (.int .i64 2)).setCell ⟨wr.heap.size, 1, none⟩ (.int .i32 0)) wr.heap.size 43 #[.int .i64 2, .int .i32 0, .slice A' n' c', .string p.name] := s1.put 1 (.int .i32 0)
          have s3 : Blk (((W2.setCell ⟨wr.heap.size, 0, none⟩ (.int .i64 2)).setCell ⟨wr.heap.size, 1, none⟩ (.int .i32 0)).setCell ⟨wr.heap.size, 2, none⟩ (.slice Ah nh ch)) wr.heap.size 43 #[.int .i64 2, .int .i32 0, .slice Ah nh ch, .string p.name] := s2.put 2 (.slice Ah nh ch)
          have s4 : Blk ((((W2.setCell ⟨wr.heap.size, 0, none⟩ (.int .i64 2)).setCell ⟨wr.heap.size, 1, none⟩ (.int .i32 0)).setCell ⟨wr.heap.size, 2, none⟩ (.slice Ah nh ch)).setCell ⟨wr.heap.size, 3, none⟩ (.string ⟨#[]⟩)) wr.heap.size 43 #[.int .i64 2, .int .i32 0, .slice Ah nh ch, .string ⟨#[]⟩] := s3.put 3 (.string ⟨#[]⟩)
          have HS4 := Lib.hid s4
          have HBS := Lib.hid ((((HX2.out.setCell (p := ⟨wr.heap.size, 0, none⟩) (Nat.le_refl _) (.int .i64 2)).setCell (p := ⟨wr.heap.size, 1, none⟩) (Nat.le_refl _) (.int .i32 0)).setCell (p := ⟨wr.heap.size, 2, none⟩) (Nat.le_refl _) (.slice Ah nh ch)).setCell (p := ⟨wr.heap.size, 3, none⟩) (Nat.le_refl _) (.string ⟨#[]⟩))
          clear h hkey hrd s1 s2 s3 s4
          go_wp2_with (at_lookup; refine wpList_look_raw rfl (.tmp 16) (.tmp 18) 41 23 rfl Try.underlying41 (z := .slice none 0 0) (zeroSet _) mb N D rfl HM2.out p.name rfl hnm (.slice Ah nh ch) HKEY.out ?_)
          go_meet
          exact ⟨_, HI.out, HS4.out, HBS.out⟩
        · have q1 : (p.kind == 3) = false := by simpa using h
          have HI := Lib.hid (put_no (f := f) h)
          clear h
          go_wp2_with fail
          go_meet
          exact ⟨_, by rw [HI.out]; exact HPC.out, HX1.out, HX2.out⟩
      case rest =>
        obtain ⟨cs, hpc, hbx, hwx⟩ := hcut
        have hone := hpc.one
        clear e0 e1 e2 e3 f0 f1 f2 f3 gg HM2 HPC
        generalize putI f p = q at *
        generalize (l.take k).map (putI f) = M at *
        obtain ⟨A9, n9, c9, rfl, hq1, hq2⟩ := hpc
        have y0 : wc.cell? ⟨wr.heap.size, 0, none⟩ = some (.int .i64 q.kind) := hbx.cell 0
        have y1 : wc.cell? ⟨wr.heap.size, 1, none⟩ = some (.int .i32 q.rune) := hbx.cell 1
        have y2 : wc.cell? ⟨wr.heap.size, 2, none⟩ = some (.slice A9 n9 c9) := hbx.cell 2
        have y3 : wc.cell? ⟨wr.heap.size, 3, none⟩ = some (.string q.name) := hbx.cell 3
        obtain ⟨css, g1, g2, g3, g4⟩ := HOWN.out
        have hzc := hwx.size
        have HO := Lib.hid (World.ownsRow.alloc (own_below g4 hwx) (.cells #[.int .i64 q.kind, .int .i32 q.rune, .slice A9 n9 c9, .string q.name] 43))
        have HN2 := Lib.hid (Rd.new wc 43 4 1 [.int .i64 q.kind, .int .i32 q.rune, .slice A9 n9 c9, .string q.name] rfl)
        have H1C := Lib.hid hone.2
        have HPQ := Lib.hid (show ItemX w X q [.int .i64 q.kind, .int .i32 q.rune, .slice A9 n9 c9, .string q.name] from ⟨A9, n9, c9, rfl, hq1, hq2⟩)
        have HWC := Lib.hid hwx
        have G1 := Lib.hid g1
        have G2 := Lib.hid g2
        have G3 := Lib.hid g3
        have hbz := HB.out.size
        clear hbx hwx g1 g2 g3 g4 hone hq1 hq2
        go_wp2_with (at_builtin; refine wpList_append_rd _ rfl (.tmp 21) (.tmp 23) 36 rfl w.heap.size 43 i0 _ 4 56 Try.underlying36 hi hz0 hz1 hz2 rfl (by decide) _ _ _ rfl HO.out _ (some ⟨wc.heap.size, 0, none⟩) 1 1 [.int .i64 q.kind, .int .i32 q.rune, .slice A9 n9 c9, .string q.name] rfl HN2.out H1C.out (by rw [hml]; unfold maxLen; omega) (by rw [hml]; omega) (by simp; omega) ?_)
        intro v9 w9 happ
        rw [← hml] at happ
        have HBN := Lib.hid ((HB.out.trans (HWC.out.mono hbz)).trans (((Below.refl _ _).alloc (Nat.le_trans hbz hzc) _).trans (happ.below (by simp; omega) HO.out)))
        have HOW := Lib.hid (OwnL.push G1.out G2.out G3.out (fun _ _ h => h) HPQ.out rfl happ)
        clear happ
        go_wp2_with fail
        refine ⟨⟨k + 1, hlt, by go_num, ?_, HBN.out⟩, by simp only [intOf]; omega⟩
        rw [HTK2.out]
        exact HOW.out
    · obtain rfl : k = n := by omega
      have htl : l.take k = l := by rw [List.take_of_length_le (by rw [HLEN.out]; exact Nat.le_refl _)]
      rw [htl] at hown
      obtain ⟨Am, km, rfl, _⟩ := hown.form
      have hmk : (l.map (putI f)).length = k := by rw [List.length_map, HLEN.out]
      have hres := OwnL.done hown (R' := ItemX wr (fun b => X b ∨ w.heap.size ≤ b)) (X := fun b => X b ∨ w.heap.size ≤ b) (fun _ _ => ItemX.keep (Keeps.below hb (fun _ h _ => .inl h))) (fun b hb' => by
        obtain ⟨_, _, _, _, h4⟩ := hown
        exact .inr (own_lt h4 hb').1)
      rw [hmk] at hres
      have HRES := Lib.hid hres
      have HB := Lib.hid hb
      clear hown hb hres
      rw [hmk]
      go_wp2_with fail
      go_ret
      exact ⟨⟨Am, km, rfl, HRES.out⟩, HB.out⟩

end Go.Proofs.Ythcjiainpaebfaa

/- A region whose loads may be taken first though stores that wait for them write what they read: a condition on the worlds that is asked behind every operation but those that wait for all of these loads. -/
namespace Go.Proofs.Ythcjiainpaebfaa
open Go.RowKit

section
variable {P : Program} {ops : Array Oper} {Q : Exit → Act → World → Prop} {md : Region.Mode} {S : World → Prop} {need : List Nat}

/-- Number j waits for number i, straight or through others. -/
def waitsB (md : Region.Mode) (ops : Array Oper) : Nat → Nat → Nat → Bool
  | 0, _, _ => false
  | f + 1, j, i => match ops[j]? with
    | some o => o.after.toList.any fun e => Region.binds md e && (e.on == i || waitsB md ops f e.on i)
    | none => false
def behindB (md : Region.Mode) (ops : Array Oper) (need : List Nat) (j : Nat) : Bool := need.all fun i => waitsB md ops ops.size j i
/-- Whatever has come up, what it waits for has come up. -/
def Closed (md : Region.Mode) (ops : Array Oper) (listed : Array Bool) : Prop := ∀ (k : Nat) (o : Oper), ops[k]? = some o → listed.getD k false = true → ∀ e ∈ o.after, Region.binds md e = true → listed.getD e.on false = true
def closedB (md : Region.Mode) (ops : Array Oper) (listed : Array Bool) : Bool := (List.range ops.size).all fun k => !(listed.getD k false) || (match ops[k]? with
  | some o => o.after.toList.all fun e => !(Region.binds md e) || listed.getD e.on false
  | none => true)
theorem closed_of {listed : Array Bool} (h : closedB md ops listed = true) : Closed md ops listed := by
  intro k o ho hk e he hb
  have hlt := (Array.getElem?_eq_some_iff.1 ho).1
  have := List.all_eq_true.1 h k (List.mem_range.2 hlt)
  rw [hk, ho] at this
  simp only [Bool.not_true, Bool.false_or] at this
  have := List.all_eq_true.1 this e (by simpa using he)
  rw [hb] at this
  simpa using this
theorem not_listed {listed : Array Bool} {i : Nat} (h0 : listed.getD i true = false) : listed.getD i false = false := by
  rcases Nat.lt_or_ge i listed.size with h' | h'
  · simp [h'] at h0 ⊢
    exact h0
  · simp [Array.getElem?_eq_none h'] at h0
theorem Closed.add {listed : Array Bool} {j : Nat} (h : Closed md ops listed) (hj : j ∈ Region.ready md ops listed) : Closed md ops (listed.setIfInBounds j true) := by
  intro k o ho hk e he hb
  obtain ⟨_, oj, hoj, hall⟩ := mem_ready.1 hj
  by_cases hjk : j = k
  · subst hjk
    rw [hoj] at ho
    cases ho
    exact getD_set_true (hall e he hb)
  · rw [getD_set_ne false hjk] at hk
    exact getD_set_true (h k o ho hk e he hb)
theorem waits_listed {listed : Array Bool} (hc : Closed md ops listed) {i : Nat} : ∀ (f j : Nat), (∀ o, ops[j]? = some o → ∀ e ∈ o.after, Region.binds md e = true → listed.getD e.on false = true) → waitsB md ops f j i = true → listed.getD i false = true := by
  intro f
  induction f with
  | zero => intro j _ h; cases h
  | succ f ih =>
    intro j hj h
    unfold waitsB at h
    cases ho : ops[j]? with
    | none => rw [ho] at h; cases h
    | some o =>
      rw [ho] at h
      obtain ⟨e, he, h⟩ := List.any_eq_true.1 h
      rw [Bool.and_eq_true, Bool.or_eq_true] at h
      have hl := hj o ho e (by simpa using he) h.1
      rcases h.2 with h2 | h2
      · rw [beq_iff_eq] at h2
        rw [← h2]
        exact hl
      · exact ih e.on (fun o' ho' e' he' hb' => hc e.on o' ho' hl e' he' hb') h2

def wpTill (P : Program) (md : Region.Mode) (ops : Array Oper) (Q : Exit → Act → World → Prop) (S : World → Prop) (need : List Nat) : Nat → Array Bool → Act → World → Prop
  | 0, listed, a, w => Region.ready md ops listed = [] ∧ Q .normal a w
  | fuel + 1, listed, a, w =>
    (Region.ready md ops listed = [] → Q .normal a w) ∧
    ∀ i ∈ Region.ready md ops listed, wpOp P ops Q i (fun a' w' => (behindB md ops need i = false → S w → S w') ∧ wpTill P md ops Q S need fuel (listed.setIfInBounds i true) a' w') a w
theorem wpAny_of_till : ∀ (fuel : Nat) (listed : Array Bool) (a : Act) (w : World), wpTill P md ops Q S need fuel listed a w → wpAny P md ops Q fuel listed a w
  | 0, _, _, _, h => h
  | fuel + 1, _, _, _, h => ⟨h.1, fun i hi => wpOp_mono (fun a' w' h' => wpAny_of_till fuel _ a' w' h'.2) (h.2 i hi)⟩
theorem wpTill_first {i : Nat} {oi : Oper} {v : Value} (hn : i ∈ need) (hi : ops[i]? = some oi) (hsel : ∀ (j : Nat) (o : Oper) cs b, ops[j]? = some o → o.op ≠ .select cs b)
    (hQ : ∀ c a w, Q (.panic c) (a.put oi.dst v) w → Q (.panic c) a w) :
    ∀ (fuel : Nat) (listed : Array Bool) (a : Act) (w : World), Closed md ops listed →
      (∀ j oj, ops[j]? = some oj → j ≠ i → listed.getD j true = false → (∀ e ∈ oj.after, Region.binds md e = true → e.on ≠ i) → oi.apart ops oj = true) →
      i ∈ Region.ready md ops listed → YieldsIf P ops S oi v a → S w →
      wpTill P md ops Q S need fuel (listed.setIfInBounds i true) (a.put oi.dst v) w → wpTill P md ops Q S need (fuel + 1) listed a w := by
  intro fuel
  induction fuel with
  | zero =>
    intro listed a w _ _ hr hy hS H
    refine ⟨fun h => (by rw [h] at hr; cases hr), fun j hj => ?_⟩
    by_cases hji : j = i
    · subst hji; exact hy.wpOp hi hS ⟨fun _ h => h, H⟩
    · have := ready_mono hj hji
      rw [H.1] at this
      cases this
  | succ fuel ih =>
    intro listed a w hcl hfree hr hy hS H
    refine ⟨fun h => (by rw [h] at hr; cases hr), fun j hj => ?_⟩
    by_cases hji : j = i
    · subst hji; exact hy.wpOp hi hS ⟨fun _ h => h, H⟩
    · have h1 := H.2 j (ready_mono hj hji)
      obtain ⟨hjun, oj, hoj, hall⟩ := mem_ready.1 hj
      have hiun := (mem_ready.1 hr).1
      have hnot : ∀ e ∈ oj.after, Region.binds md e = true → e.on ≠ i := fun e he hb heq => by
        have h1 := hall e he hb
        rw [heq, not_listed hiun] at h1
        cases h1
      have hbeh : behindB md ops need j = false := by
        unfold behindB
        rw [Bool.eq_false_iff]
        intro h
        have := waits_listed hcl ops.size j (fun o ho e he hb => by rw [hoj] at ho; cases ho; exact hall e he hb) (List.all_eq_true.1 h i hn)
        rw [not_listed hiun] at this
        cases this
      have h2 := wpOp_putIf hoj (hfree j oj hoj hji hjun hnot) (fun cs b => hsel i oi cs b hi) (fun cs b => hsel j oj cs b hoj) hQ hy h1
      have hfree' : ∀ k ok, ops[k]? = some ok → k ≠ i → (listed.setIfInBounds j true).getD k true = false →
          (∀ e ∈ ok.after, Region.binds md e = true → e.on ≠ i) → oi.apart ops ok = true := fun k ok hk hki hun hno => by
        refine hfree k ok hk hki ?_ hno
        by_cases hjk : j = k
        · subst hjk; exact hjun
        · rw [getD_set_ne true hjk] at hun; exact hun
      refine wpOp_mono (fun a' w' h3 => ⟨h3.2.1, ih (listed.setIfInBounds j true) a' w' (hcl.add hj) hfree' (ready_mono hr (Ne.symm hji)) h3.1 (h3.2.1 hbeh hS) ?_⟩) h2
      rw [Array.setIfInBounds_comm _ _ hji]
      exact h3.2.2
/-- What yields its value in every world is taken first whenever it may come up. -/
theorem wpTill_mild {i : Nat} {oi : Oper} {v : Value} (hi : ops[i]? = some oi) (hsel : ∀ (j : Nat) (o : Oper) cs b, ops[j]? = some o → o.op ≠ .select cs b)
    (hQ : ∀ c a w, Q (.panic c) (a.put oi.dst v) w → Q (.panic c) a w) :
    ∀ (fuel : Nat) (listed : Array Bool) (a : Act) (w : World),
      (∀ j oj, ops[j]? = some oj → j ≠ i → listed.getD j true = false → (∀ e ∈ oj.after, Region.binds md e = true → e.on ≠ i) → oi.apart ops oj = true) →
      i ∈ Region.ready md ops listed → YieldsIf P ops (fun _ => True) oi v a →
      wpTill P md ops Q S need fuel (listed.setIfInBounds i true) (a.put oi.dst v) w → wpTill P md ops Q S need (fuel + 1) listed a w := by
  intro fuel
  induction fuel with
  | zero =>
    intro listed a w _ hr hy H
    refine ⟨fun h => (by rw [h] at hr; cases hr), fun j hj => ?_⟩
    by_cases hji : j = i
    · subst hji; exact hy.wpOp hi trivial ⟨fun _ h => h, H⟩
    · have := ready_mono hj hji
      rw [H.1] at this
      cases this
  | succ fuel ih =>
    intro listed a w hfree hr hy H
    refine ⟨fun h => (by rw [h] at hr; cases hr), fun j hj => ?_⟩
    by_cases hji : j = i
    · subst hji; exact hy.wpOp hi trivial ⟨fun _ h => h, H⟩
    · have h1 := H.2 j (ready_mono hj hji)
      obtain ⟨hjun, oj, hoj, hall⟩ := mem_ready.1 hj
      have hiun := (mem_ready.1 hr).1
      have hnot : ∀ e ∈ oj.after, Region.binds md e = true → e.on ≠ i := fun e he hb heq => by
        have h1 := hall e he hb
        rw [heq, not_listed hiun] at h1
        cases h1
      have h2 := wpOp_putIf hoj (hfree j oj hoj hji hjun hnot) (fun cs b => hsel i oi cs b hi) (fun cs b => hsel j oj cs b hoj) hQ hy h1
      have hfree' : ∀ k ok, ops[k]? = some ok → k ≠ i → (listed.setIfInBounds j true).getD k true = false →
          (∀ e ∈ ok.after, Region.binds md e = true → e.on ≠ i) → oi.apart ops ok = true := fun k ok hk hki hun hno => by
        refine hfree k ok hk hki ?_ hno
        by_cases hjk : j = k
        · subst hjk; exact hjun
        · rw [getD_set_ne true hjk] at hun; exact hun
      refine wpOp_mono (fun a' w' h3 => ⟨h3.2.1, ih (listed.setIfInBounds j true) a' w' hfree' (ready_mono hr (Ne.symm hji)) h3.1 ?_⟩) h2
      rw [Array.setIfInBounds_comm _ _ hji]
      exact h3.2.2
theorem wpTill_pure {i : Nat} {oi : Oper} {v : Value} {fuel : Nat} {listed : Array Bool} {a : Act} {w : World} (hi : ops[i]? = some oi)
    (hs : Region.noSelect ops = true) (hf : Region.free md ops listed i = true) (hr : (Region.ready md ops listed).contains i = true)
    (hQ : ∀ c a w, Q (.panic c) (a.put oi.dst v) w → Q (.panic c) a w) (hy : YieldsIf P ops (fun _ => True) oi v a)
    (h : wpTill P md ops Q S need fuel (listed.setIfInBounds i true) (a.put oi.dst v) w) : wpTill P md ops Q S need (fuel + 1) listed a w :=
  wpTill_mild hi (Region.noSelect_spec hs) hQ fuel listed a w (Region.free_spec hi hf) (by simpa using hr) hy h
theorem wpTill_take {i : Nat} {oi : Oper} {v : Value} {fuel : Nat} {listed : Array Bool} {a : Act} {w : World} (hi : ops[i]? = some oi) (hn : need.contains i = true)
    (hs : Region.noSelect ops = true) (hf : Region.free md ops listed i = true) (hr : (Region.ready md ops listed).contains i = true) (hc : closedB md ops listed = true)
    (hQ : ∀ c a w, Q (.panic c) (a.put oi.dst v) w → Q (.panic c) a w) (hy : YieldsIf P ops S oi v a) (hS : S w)
    (h : wpTill P md ops Q S need fuel (listed.setIfInBounds i true) (a.put oi.dst v) w) : wpTill P md ops Q S need (fuel + 1) listed a w :=
  wpTill_first (by simpa using hn) hi (Region.noSelect_spec hs) hQ fuel listed a w (closed_of hc) (Region.free_spec hi hf) (by simpa using hr) hy hS h
/-- The one that may come up: S is to be shown anew behind it. -/
theorem wpTill_one {i : Nat} {o : Oper} {fuel : Nat} {listed : Array Bool} {a : Act} {w : World} (hr : Region.ready md ops listed = [i]) (ho : ops[i]? = some o)
    (h : ∀ K' : Act → World → Prop, Shut (∀ a w, S w → (S w → wpTill P md ops Q S need fuel (listed.setIfInBounds i true) a w) → K' a w) → if Region.wanted o (yielded ops a.tmps) = true then Oper.wp P o a w K' Q else K' (a.put o.dst undef) w) :
    wpTill P md ops Q S need (fuel + 1) listed a w := by
  refine ⟨fun h0 => (by rw [hr] at h0; cases h0), fun j hj => ?_⟩
  rw [hr] at hj
  obtain rfl : j = i := by simpa using hj
  exact wpOp_step ho (fun K' hK => h K' (fun a w hS hW => hK a w ⟨fun _ _ => hS, hW hS⟩))
/-- The one that may come up waits for all loads: nothing is asked behind it. -/
theorem wpTill_late {i : Nat} {o : Oper} {fuel : Nat} {listed : Array Bool} {a : Act} {w : World} (hr : Region.ready md ops listed = [i]) (ho : ops[i]? = some o) (hl : behindB md ops need i = true)
    (h : ∀ K' : Act → World → Prop, Shut (∀ a w, wpTill P md ops Q S need fuel (listed.setIfInBounds i true) a w → K' a w) → if Region.wanted o (yielded ops a.tmps) = true then Oper.wp P o a w K' Q else K' (a.put o.dst undef) w) :
    wpTill P md ops Q S need (fuel + 1) listed a w := by
  refine ⟨fun h0 => (by rw [hr] at h0; cases h0), fun j hj => ?_⟩
  rw [hr] at hj
  obtain rfl : j = i := by simpa using hj
  exact wpOp_step ho (fun K' hK => h K' (fun a w hW => hK a w ⟨fun h0 => (by rw [hl] at h0; cases h0), hW⟩))
theorem wpTill_done {listed : Array Bool} {a : Act} {w : World} (hr : Region.ready md ops listed = []) (h : Q .normal a w) : ∀ fuel, wpTill P md ops Q S need fuel listed a w
  | 0 => ⟨hr, h⟩
  | _ + 1 => ⟨fun _ => h, by rw [hr]; simp⟩
theorem wp_region_till {id : Nat} {a : Act} {w : World} (need : List Nat) (hm : P.follows .mixedOrders = true) (hS : S w.drew)
    (h : S w.drew → wpTill P .any ops Q S need ops.size (Array.replicate ops.size false) a w.drew) : (Code.region id ops true).wp P Q a w :=
  wp_region_any hm (wpAny_of_till _ _ _ _ (h hS))
end

end Go.Proofs.Ythcjiainpaebfaa

/- The closure side of scriptlaw6.ResolveVars: a side with each variable's set in the place of its name. -/
namespace Go.Proofs.Ythcjiainpaebfaa
open Go.RowKit Go.Maps

/-- The value of the closure put. -/
abbrev putV (gh : Nat) : Value := .func (.func 11) #[] #[.pointer (some ⟨gh, 0, none⟩)]
theorem sd_of {gp g : Nat} {t1 t2 : TypeId} {c0 c1 c2 c3 c4 c5 v : Value} {wx : World} (h0 : Blk wx gp t1 #[v]) (h : Blk wx g t2 #[c0, c1, c2, c3, c4, c5]) :
    wx.cell? ⟨gp, 0, none⟩ = some v ∧ wx.cell? ⟨g, 2, none⟩ = some c2 ∧ wx.cell? ⟨g, 3, none⟩ = some c3 ∧ wx.cell? ⟨g, 4, none⟩ = some c4 :=
  ⟨h0.cell 0, h.cell 2, h.cell 3, h.cell 4⟩
/-- The blocks X that are there at w, and those behind the two that side makes at once. -/
def XS (X : Nat → Prop) (w : World) (b : Nat) : Prop := (X b ∧ b < w.heap.size) ∨ w.heap.size + 2 ≤ b
theorem xs_of {X : Nat → Prop} {w : World} {lo b : Nat} (h : (X b ∧ b < w.heap.size) ∨ lo ≤ b) (hl : w.heap.size + 2 ≤ lo) : XS X w b := h.imp id (fun h => by omega)
theorem xs_set {X : Nat → Prop} {w wx : World} {i : Nat} {u : Value} (g : Nat) (h1 : w.heap.size ≤ g) (h2 : g < w.heap.size + 2) : Keeps wx (XS X w) (wx.setCell ⟨g, i, none⟩ u) (XS X w) :=
  Keeps.setCell u (fun b hb => by rcases hb with ⟨_, h⟩ | h <;> dsimp only <;> omega) (fun _ h _ => h)
theorem keep_here (X : Nat → Prop) (w : World) : Keeps w X w (fun b => X b ∧ b < w.heap.size) := fun _ hb hl => ⟨rfl, ⟨hb, hl⟩, hl⟩
set_option maxRecDepth 100000 in
set_option maxHeartbeats 3200000 in
theorem vars_side (X : Nat → Prop) (mb gh gp N : Nat) (L : List PartD) (s : SideD) (L1 L2 L3 : Option Addr) (a1 a2 a3 x1 x2 x3 : Nat) (w : World) (hgh : Blk w gh 41 #[.map (some mb)]) (hgp : Blk w gp 44 #[putV gh]) (hm : EnvM w X mb N L)
    (l1 : ItemsX w X L1 a1 s.before) (l2 : ItemsX w X L2 a2 s.source) (l3 : ItemsX w X L3 a3 s.after) (b1 : a1 ≤ 20) (b2 : a2 ≤ 20) (b3 : a3 ≤ 20) (hc : i64R s.cursor) :
    Calls Try.prog 12 #[.agg #[.bool s.start, .bool s.fin, .slice L1 a1 x1, .slice L2 a2 x2, .slice L3 a3 x3, .int .i64 s.cursor], .pointer (some ⟨gp, 0, none⟩)] w fun e w' => (∃ cs : List Value, e = .returned (.agg cs.toArray) ∧ SideX w' (fun b => X b ∨ w.heap.size ≤ b) (putS (hadP L) s) cs) ∧ Below w.heap.size w w' := by
  have hs := fun (w' : World) (hb : Below w.heap.size w w') (A' : Option Addr) (n' c' : Nat) (M : List ItemD) (hM : ItemsX w X A' n' M) (hn : n' ≤ 20) => vars_put (fun b => X b ∧ b < w.heap.size) mb gh N L A' n' c' M w' (Blk.below hgh hb hgh.lt) (hm.keep ((keep_here X w).trans (Keeps.below hb (fun _ h _ => h))) (hb.block _ hm.lt)) hn (hM.keep ((keep_here X w).trans (Keeps.below hb (fun _ h _ => h))))
  have HS1 := Lib.hid (fun (w' : World) (hb : Below w.heap.size w w') => hs w' hb L1 a1 x1 s.before l1 b1)
  have HS2 := Lib.hid (fun (w' : World) (hb : Below w.heap.size w w') => hs w' hb L2 a2 x2 s.source l2 b2)
  have HS3 := Lib.hid (fun (w' : World) (hb : Below w.heap.size w w') => hs w' hb L3 a3 x3 s.after l3 b3)
  have hx := two_new w 38 38 #[.bool s.start, .bool s.fin, .slice L1 a1 x1, .slice L2 a2 x2, .slice L3 a3 x3, .int .i64 s.cursor] #[.bool false, .bool false, .slice none 0 0, .slice none 0 0, .slice none 0 0, .int .i64 0]
  have HX0 := Lib.hid hx
  have HG0 := Lib.hid (Blk.below hgp hx.2.2.1 hgp.lt)
  have HC := Lib.hid hc
  have hgl := hgp.lt
  clear hs l1 l2 l3 hc hx hgh hgp hm
  go_enter Try.func12, Try.ntmps12
  go_upto_region 1 with fail
  obtain ⟨hx0, hx1, hx2, hx3⟩ := HX0.out
  clear HX0
  generalize ((w.alloc (.cells #[.bool s.start, .bool s.fin, .slice L1 a1 x1, .slice L2 a2 x2, .slice L3 a3 x3, .int .i64 s.cursor] 38)).alloc (.cells #[.bool false, .bool false, .slice none 0 0, .slice none 0 0, .slice none 0 0, .int .i64 0] 38)) = W2 at *
  have HX := Lib.hid hx0
  have HY := Lib.hid hx1
  have HB2 := Lib.hid hx2
  have hz2 := hx3
  clear hx0 hx1 hx2 hx3
  refine wp_region_till (S := (fun w' => w'.cell? ⟨gp, 0, none⟩ = some (putV gh) ∧ w'.cell? ⟨w.heap.size, 2, none⟩ = some (.slice L1 a1 x1) ∧ w'.cell? ⟨w.heap.size, 3, none⟩ = some (.slice L2 a2 x2) ∧ w'.cell? ⟨w.heap.size, 4, none⟩ = some (.slice L3 a3 x3))) [0, 1, 2, 4, 5, 6, 8, 9, 10] (by kernel_rfl) (sd_of (Blk.drewN HG0.out 1) (Blk.drewN HX.out 1)) (fun hHeld => ?_)
  try simp only [Act.put]
  refine wpTill_take (i := 0) (v := ?_) rfl rfl (by kernel_rfl) (by kernel_rfl) (by kernel_rfl) (by kernel_rfl) (fun _ _ _ h => h) (Or.inl ⟨by rfl, ?_⟩) (by assumption) ?_
  rotate_left 1
  · intro w hSw
    (try dsimp only at hSw)
    go_simp
    try with_reducible rfl
  try simp only [Act.put]
  refine wpTill_take (i := 1) (v := ?_) rfl rfl (by kernel_rfl) (by kernel_rfl) (by kernel_rfl) (by kernel_rfl) (fun _ _ _ h => h) (Or.inl ⟨by rfl, ?_⟩) (by assumption) ?_
  rotate_left 1
  · intro w hSw
    (try dsimp only at hSw)
    go_simp
    try with_reducible rfl
  try simp only [Act.put]
  refine wpTill_take (i := 2) (v := ?_) rfl rfl (by kernel_rfl) (by kernel_rfl) (by kernel_rfl) (by kernel_rfl) (fun _ _ _ h => h) (Or.inl ⟨by rfl, ?_⟩) (by assumption) ?_
  rotate_left 1
  · intro w hSw
    (try dsimp only at hSw)
    go_simp
    try with_reducible rfl
  try simp only [Act.put]
  refine wpTill_take (i := 4) (v := ?_) rfl rfl (by kernel_rfl) (by kernel_rfl) (by kernel_rfl) (by kernel_rfl) (fun _ _ _ h => h) (Or.inl ⟨by rfl, ?_⟩) (by assumption) ?_
  rotate_left 1
  · intro w hSw
    (try dsimp only at hSw)
    go_simp
    try with_reducible rfl
  try simp only [Act.put]
  refine wpTill_take (i := 5) (v := ?_) rfl rfl (by kernel_rfl) (by kernel_rfl) (by kernel_rfl) (by kernel_rfl) (fun _ _ _ h => h) (Or.inl ⟨by rfl, ?_⟩) (by assumption) ?_
  rotate_left 1
  · intro w hSw
    (try dsimp only at hSw)
    go_simp
    try with_reducible rfl
  try simp only [Act.put]
  refine wpTill_take (i := 6) (v := ?_) rfl rfl (by kernel_rfl) (by kernel_rfl) (by kernel_rfl) (by kernel_rfl) (fun _ _ _ h => h) (Or.inl ⟨by rfl, ?_⟩) (by assumption) ?_
  rotate_left 1
  · intro w hSw
    (try dsimp only at hSw)
    go_simp
    try with_reducible rfl
  try simp only [Act.put]
  refine wpTill_take (i := 8) (v := ?_) rfl rfl (by kernel_rfl) (by kernel_rfl) (by kernel_rfl) (by kernel_rfl) (fun _ _ _ h => h) (Or.inl ⟨by rfl, ?_⟩) (by assumption) ?_
  rotate_left 1
  · intro w hSw
    (try dsimp only at hSw)
    go_simp
    try with_reducible rfl
  try simp only [Act.put]
  refine wpTill_take (i := 9) (v := ?_) rfl rfl (by kernel_rfl) (by kernel_rfl) (by kernel_rfl) (by kernel_rfl) (fun _ _ _ h => h) (Or.inl ⟨by rfl, ?_⟩) (by assumption) ?_
  rotate_left 1
  · intro w hSw
    (try dsimp only at hSw)
    go_simp
    try with_reducible rfl
  try simp only [Act.put]
  refine wpTill_take (i := 10) (v := ?_) rfl rfl (by kernel_rfl) (by kernel_rfl) (by kernel_rfl) (by kernel_rfl) (fun _ _ _ h => h) (Or.inl ⟨by rfl, ?_⟩) (by assumption) ?_
  rotate_left 1
  · intro w hSw
    (try dsimp only at hSw)
    go_simp
    try with_reducible rfl
  try simp only [Act.put]
  refine wpTill_one (i := 3) (by kernel_rfl) rfl (fun K hK => ?_)
  go_simp
  go_at_call 11
  refine (HS1.out _ HB2.out.drew).mono ?_
  rintro e w3 ⟨⟨A3, c3, rfl, hi3⟩, hb3⟩
  have HI3 := Lib.hid hi3
  have HB3 := Lib.hid (HB2.out.drew.trans (hb3.mono HB2.out.drew.size))
  have HBS3 := Lib.hid hb3
  have HX3 := Lib.hid (Blk.below (Blk.drewN HX.out 1) hb3 (Blk.drewN HX.out 1).lt)
  have HY3 := Lib.hid (Blk.below (Blk.drewN HY.out 1) hb3 (Blk.drewN HY.out 1).lt)
  have HG3 := Lib.hid (Blk.below (Blk.drewN HG0.out 1) hb3 (Blk.drewN HG0.out 1).lt)
  clear hi3 hb3
  dsimp only
  refine hK.out _ _ ?_ (fun hHeld => ?_)
  · exact sd_of HG3.out HX3.out
  clear hK K
  refine wpTill_pure (i := 12) (v := ?_) rfl (by kernel_rfl) (by kernel_rfl) (by kernel_rfl) (fun _ _ _ h => h) (Or.inl ⟨by rfl, ?_⟩) ?_
  rotate_left 1
  · intro w hSw
    (try dsimp only at hSw)
    go_simp
    try with_reducible rfl
  try simp only [Act.put]
  refine wpTill_one (i := 7) (by kernel_rfl) rfl (fun K hK => ?_)
  go_simp
  go_at_call 11
  refine (HS2.out _ HB3.out).mono ?_
  rintro e w4 ⟨⟨A4, c4, rfl, hi4⟩, hb4⟩
  have HI4 := Lib.hid hi4
  have HB4 := Lib.hid (HB3.out.trans (hb4.mono HB3.out.size))
  have HBS4 := Lib.hid hb4
  have HX4 := Lib.hid (Blk.below HX3.out hb4 HX3.out.lt)
  have HY4 := Lib.hid (Blk.below HY3.out hb4 HY3.out.lt)
  have HG4 := Lib.hid (Blk.below HG3.out hb4 HG3.out.lt)
  clear hi4 hb4
  dsimp only
  refine hK.out _ _ ?_ (fun hHeld => ?_)
  · exact sd_of HG4.out HX4.out
  clear hK K
  refine wpTill_one (i := 11) (by kernel_rfl) rfl (fun K hK => ?_)
  go_simp
  go_at_call 11
  refine (HS3.out _ HB4.out).mono ?_
  rintro e w5 ⟨⟨A5, c5, rfl, hi5⟩, hb5⟩
  have HI5 := Lib.hid hi5
  have HB5 := Lib.hid (HB4.out.trans (hb5.mono HB4.out.size))
  have HBS5 := Lib.hid hb5
  have HX5 := Lib.hid (Blk.below HX4.out hb5 HX4.out.lt)
  have HY5 := Lib.hid (Blk.below HY4.out hb5 HY4.out.lt)
  have HG5 := Lib.hid (Blk.below HG4.out hb5 HG4.out.lt)
  clear hi5 hb5
  have z2 : w5.cell? ⟨w.heap.size, 2, none⟩ = some (.slice L1 a1 x1) := HX5.out.cell 2
  have f2 := HX5.out.frozen 2
  have z3 : w5.cell? ⟨w.heap.size, 3, none⟩ = some (.slice L2 a2 x2) := HX5.out.cell 3
  have f3 := HX5.out.frozen 3
  have z4 : w5.cell? ⟨w.heap.size, 4, none⟩ = some (.slice L3 a3 x3) := HX5.out.cell 4
  have f4 := HX5.out.frozen 4
  have hl5 := HX5.out.lt
  dsimp only
  refine hK.out _ _ ?_ (fun hHeld => ?_)
  · exact sd_of HG5.out HX5.out
  clear hK K
  refine wpTill_late (i := 13) (by kernel_rfl) rfl (by kernel_rfl) (fun K hK => ?_)
  go_simp
  refine hK.out _ _ ?_
  clear hK K
  refine wpTill_pure (i := 14) (v := ?_) rfl (by kernel_rfl) (by kernel_rfl) (by kernel_rfl) (fun _ _ _ h => h) (Or.inl ⟨by rfl, ?_⟩) ?_
  rotate_left 1
  · intro w hSw
    (try dsimp only at hSw)
    go_simp
    try with_reducible rfl
  try simp only [Act.put]
  refine wpTill_late (i := 15) (by kernel_rfl) rfl (by kernel_rfl) (fun K hK => ?_)
  go_simp
  refine hK.out _ _ ?_
  clear hK K
  refine wpTill_pure (i := 16) (v := ?_) rfl (by kernel_rfl) (by kernel_rfl) (by kernel_rfl) (fun _ _ _ h => h) (Or.inl ⟨by rfl, ?_⟩) ?_
  rotate_left 1
  · intro w hSw
    (try dsimp only at hSw)
    go_simp
    try with_reducible rfl
  try simp only [Act.put]
  refine wpTill_late (i := 17) (by kernel_rfl) rfl (by kernel_rfl) (fun K hK => ?_)
  go_simp
  refine hK.out _ _ ?_
  clear hK K
  refine wpTill_done (by kernel_rfl) ?_ _
  have s2 : Blk (w5.setCell ⟨w.heap.size, 2, none⟩ (.slice A3 a1 c3)) w.heap.size 38 #[.bool s.start, .bool s.fin, .slice A3 a1 c3, .slice L2 a2 x2, .slice L3 a3 x3, .int .i64 s.cursor] := HX5.out.put 2 (.slice A3 a1 c3)
  have s3 : Blk ((w5.setCell ⟨w.heap.size, 2, none⟩ (.slice A3 a1 c3)).setCell ⟨w.heap.size, 3, none⟩ (.slice A4 a2 c4)) w.heap.size 38 #[.bool s.start, .bool s.fin, .slice A3 a1 c3, .slice A4 a2 c4, .slice L3 a3 x3, .int .i64 s.cursor] := s2.put 3 (.slice A4 a2 c4)
  have s4 : Blk (((w5.setCell ⟨w.heap.size, 2, none⟩ (.slice A3 a1 c3)).setCell ⟨w.heap.size, 3, none⟩ (.slice A4 a2 c4)).setCell ⟨w.heap.size, 4, none⟩ (.slice A5 a3 c5)) w.heap.size 38 #[.bool s.start, .bool s.fin, .slice A3 a1 c3, .slice A4 a2 c4, .slice A5 a3 c5, .int .i64 s.cursor] := s3.put 4 (.slice A5 a3 c5)
  have y4 := blk_set_ne (g := w.heap.size) (i := 4) (u := .slice A5 a3 c5) (blk_set_ne (g := w.heap.size) (i := 3) (u := .slice A4 a2 c4) (blk_set_ne (g := w.heap.size) (i := 2) (u := .slice A3 a1 c3) HY5.out (by omega)) (by omega)) (by omega)
  have hb6 := ((HB5.out.setCell (p := ⟨w.heap.size, 2, none⟩) (Nat.le_refl _) (.slice A3 a1 c3)).setCell (p := ⟨w.heap.size, 3, none⟩) (Nat.le_refl _) (.slice A4 a2 c4)).setCell (p := ⟨w.heap.size, 4, none⟩) (Nat.le_refl _) (.slice A5 a3 c5)
  have hz3 := HB3.out.size
  have hz4 := HB4.out.size
  have hbz3 := HBS3.out.size
  have hbz4 := HBS4.out.size
  have hd : W2.drew.heap.size = w.heap.size + 2 := hz2
  have hi3 := ((HI3.out.keep (Keeps.below (X' := XS X w) HBS4.out (fun b hb hl => xs_of hb (by omega)))).keep (Keeps.below (X' := XS X w) HBS5.out (fun b hb _ => hb)))
  have hi4 := (HI4.out.keep (Keeps.below (X' := XS X w) HBS5.out (fun b hb hl => xs_of hb (by omega))))
  have hi5 := (HI5.out.keep (Keeps.refl (X' := XS X w) (fun b hb => xs_of hb (by omega))))
  have hkk : Keeps w5 (XS X w) (((w5.setCell ⟨w.heap.size, 2, none⟩ (.slice A3 a1 c3)).setCell ⟨w.heap.size, 3, none⟩ (.slice A4 a2 c4)).setCell ⟨w.heap.size, 4, none⟩ (.slice A5 a3 c5)) (XS X w) := ((xs_set _ (Nat.le_refl _) (by omega)).trans (xs_set _ (Nat.le_refl _) (by omega))).trans (xs_set _ (Nat.le_refl _) (by omega))
  have hj3 := hi3.keep hkk
  have hj4 := hi4.keep hkk
  have hj5 := hi5.keep hkk
  clear HI3 HI4 HI5 HB3 HB4 HB5 HBS3 HBS4 HBS5 HX3 HX4 HX5 HY3 HY4 HY5 HG3 HG4 HG5 HG0 HX HY HB2 hHeld hi3 hi4 hi5 hkk z2 z3 z4 f2 f3 f4 hl5 s2 s3 HS1 HS2 HS3
  generalize (((w5.setCell ⟨w.heap.size, 2, none⟩ (.slice A3 a1 c3)).setCell ⟨w.heap.size, 3, none⟩ (.slice A4 a2 c4)).setCell ⟨w.heap.size, 4, none⟩ (.slice A5 a3 c5)) = W6 at *
  have r0 : W6.cell? ⟨w.heap.size, 0, none⟩ = some (.bool s.start) := s4.cell 0
  have r1 : W6.cell? ⟨w.heap.size, 1, none⟩ = some (.bool s.fin) := s4.cell 1
  have r2 : W6.cell? ⟨w.heap.size, 2, none⟩ = some (.slice A3 a1 c3) := s4.cell 2
  have r3 : W6.cell? ⟨w.heap.size, 3, none⟩ = some (.slice A4 a2 c4) := s4.cell 3
  have r4 : W6.cell? ⟨w.heap.size, 4, none⟩ = some (.slice A5 a3 c5) := s4.cell 4
  have r5 : W6.cell? ⟨w.heap.size, 5, none⟩ = some (.int .i64 s.cursor) := s4.cell 5
  have t0 : W6.cell? ⟨w.heap.size + 1, 0, none⟩ = some (.bool false) := y4.cell 0
  have t1 : W6.cell? ⟨w.heap.size + 1, 1, none⟩ = some (.bool false) := y4.cell 1
  have t2 : W6.cell? ⟨w.heap.size + 1, 2, none⟩ = some (.slice none 0 0) := y4.cell 2
  have t3 : W6.cell? ⟨w.heap.size + 1, 3, none⟩ = some (.slice none 0 0) := y4.cell 3
  have t4 : W6.cell? ⟨w.heap.size + 1, 4, none⟩ = some (.slice none 0 0) := y4.cell 4
  have t5 : W6.cell? ⟨w.heap.size + 1, 5, none⟩ = some (.int .i64 0) := y4.cell 5
  have g0 := y4.frozen 0
  have g1 := y4.frozen 1
  have g2 := y4.frozen 2
  have g3 := y4.frozen 3
  have g4 := y4.frozen 4
  have g5 := y4.frozen 5
  have hl6 := y4.lt
  have s0 := y4
  have p0 : Blk (W6.setCell ⟨w.heap.size + 1, 0, none⟩ (.bool s.start)) (w.heap.size + 1) 38 #[.bool s.start, .bool false, .slice none 0 0, .slice none 0 0, .slice none 0 0, .int .i64 0] := y4.put 0 (.bool s.start)
  have p1 : Blk ((W6.setCell ⟨w.heap.size + 1, 0, none⟩ (.bool s.start)).setCell ⟨w.heap.size + 1, 1, none⟩ (.bool s.fin)) (w.heap.size + 1) 38 #[.bool s.start, .bool s.fin, .slice none 0 0, .slice none 0 0, .slice none 0 0, .int .i64 0] := p0.put 1 (.bool s.fin)
  have p2 : Blk (((W6.setCell ⟨w.heap.size + 1, 0, none⟩ (.bool s.start)).setCell ⟨w.heap.size + 1, 1, none⟩ (.bool s.fin)).setCell ⟨w.heap.size + 1, 2, none⟩ (.slice A3 a1 c3)) (w.heap.size + 1) 38 #[.bool s.start, .bool s.fin, .slice A3 a1 c3, .slice none 0 0, .slice none 0 0, .int .i64 0] := p1.put 2 (.slice A3 a1 c3)
  have p3 : Blk ((((W6.setCell ⟨w.heap.size + 1, 0, none⟩ (.bool s.start)).setCell ⟨w.heap.size + 1, 1, none⟩ (.bool s.fin)).setCell ⟨w.heap.size + 1, 2, none⟩ (.slice A3 a1 c3)).setCell ⟨w.heap.size + 1, 3, none⟩ (.slice A4 a2 c4)) (w.heap.size + 1) 38 #[.bool s.start, .bool s.fin, .slice A3 a1 c3, .slice A4 a2 c4, .slice none 0 0, .int .i64 0] := p2.put 3 (.slice A4 a2 c4)
  have p4 : Blk (((((W6.setCell ⟨w.heap.size + 1, 0, none⟩ (.bool s.start)).setCell ⟨w.heap.size + 1, 1, none⟩ (.bool s.fin)).setCell ⟨w.heap.size + 1, 2, none⟩ (.slice A3 a1 c3)).setCell ⟨w.heap.size + 1, 3, none⟩ (.slice A4 a2 c4)).setCell ⟨w.heap.size + 1, 4, none⟩ (.slice A5 a3 c5)) (w.heap.size + 1) 38 #[.bool s.start, .bool s.fin, .slice A3 a1 c3, .slice A4 a2 c4, .slice A5 a3 c5, .int .i64 0] := p3.put 4 (.slice A5 a3 c5)
  have p5 : Blk ((((((W6.setCell ⟨w.heap.size + 1, 0, none⟩ (.bool s.start)).setCell ⟨w.heap.size + 1, 1, none⟩ (.bool s.fin)).setCell ⟨w.heap.size + 1, 2, none⟩ (.slice A3 a1 c3)).setCell ⟨w.heap.size + 1, 3, none⟩ (.slice A4 a2 c4)).setCell ⟨w.heap.size + 1, 4, none⟩ (.slice A5 a3 c5)).setCell ⟨w.heap.size + 1, 5, none⟩ (.int .i64 s.cursor)) (w.heap.size + 1) 38 #[.bool s.start, .bool s.fin, .slice A3 a1 c3, .slice A4 a2 c4, .slice A5 a3 c5, .int .i64 s.cursor] := p4.put 5 (.int .i64 s.cursor)
  have hk7 : Keeps W6 (XS X w) ((((((W6.setCell ⟨w.heap.size + 1, 0, none⟩ (.bool s.start)).setCell ⟨w.heap.size + 1, 1, none⟩ (.bool s.fin)).setCell ⟨w.heap.size + 1, 2, none⟩ (.slice A3 a1 c3)).setCell ⟨w.heap.size + 1, 3, none⟩ (.slice A4 a2 c4)).setCell ⟨w.heap.size + 1, 4, none⟩ (.slice A5 a3 c5)).setCell ⟨w.heap.size + 1, 5, none⟩ (.int .i64 s.cursor)) (XS X w) := Keeps.trans (Keeps.trans (Keeps.trans (Keeps.trans (Keeps.trans (xs_set _ (Nat.le_succ _) (by omega)) (xs_set _ (Nat.le_succ _) (by omega))) (xs_set _ (Nat.le_succ _) (by omega))) (xs_set _ (Nat.le_succ _) (by omega))) (xs_set _ (Nat.le_succ _) (by omega))) (xs_set _ (Nat.le_succ _) (by omega))
  have hf : Keeps ((((((W6.setCell ⟨w.heap.size + 1, 0, none⟩ (.bool s.start)).setCell ⟨w.heap.size + 1, 1, none⟩ (.bool s.fin)).setCell ⟨w.heap.size + 1, 2, none⟩ (.slice A3 a1 c3)).setCell ⟨w.heap.size + 1, 3, none⟩ (.slice A4 a2 c4)).setCell ⟨w.heap.size + 1, 4, none⟩ (.slice A5 a3 c5)).setCell ⟨w.heap.size + 1, 5, none⟩ (.int .i64 s.cursor)) (XS X w) ((((((W6.setCell ⟨w.heap.size + 1, 0, none⟩ (.bool s.start)).setCell ⟨w.heap.size + 1, 1, none⟩ (.bool s.fin)).setCell ⟨w.heap.size + 1, 2, none⟩ (.slice A3 a1 c3)).setCell ⟨w.heap.size + 1, 3, none⟩ (.slice A4 a2 c4)).setCell ⟨w.heap.size + 1, 4, none⟩ (.slice A5 a3 c5)).setCell ⟨w.heap.size + 1, 5, none⟩ (.int .i64 s.cursor)) (fun b => X b ∨ w.heap.size ≤ b) := Keeps.refl (fun b hb => hb.imp (fun h => h.1) (fun h => by omega))
  have hb7 := ((((((hb6.setCell (p := ⟨w.heap.size + 1, 0, none⟩) (Nat.le_succ _) (.bool s.start)).setCell (p := ⟨w.heap.size + 1, 1, none⟩) (Nat.le_succ _) (.bool s.fin)).setCell (p := ⟨w.heap.size + 1, 2, none⟩) (Nat.le_succ _) (.slice A3 a1 c3)).setCell (p := ⟨w.heap.size + 1, 3, none⟩) (Nat.le_succ _) (.slice A4 a2 c4)).setCell (p := ⟨w.heap.size + 1, 4, none⟩) (Nat.le_succ _) (.slice A5 a3 c5)).setCell (p := ⟨w.heap.size + 1, 5, none⟩) (Nat.le_succ _) (.int .i64 s.cursor))
  have HSX := Lib.hid (show SideX ((((((W6.setCell ⟨w.heap.size + 1, 0, none⟩ (.bool s.start)).setCell ⟨w.heap.size + 1, 1, none⟩ (.bool s.fin)).setCell ⟨w.heap.size + 1, 2, none⟩ (.slice A3 a1 c3)).setCell ⟨w.heap.size + 1, 3, none⟩ (.slice A4 a2 c4)).setCell ⟨w.heap.size + 1, 4, none⟩ (.slice A5 a3 c5)).setCell ⟨w.heap.size + 1, 5, none⟩ (.int .i64 s.cursor)) (fun b => X b ∨ w.heap.size ≤ b) (putS (hadP L) s) [.bool s.start, .bool s.fin, .slice A3 a1 c3, .slice A4 a2 c4, .slice A5 a3 c5, .int .i64 s.cursor] from ⟨A3, a1, c3, A4, a2, c4, A5, a3, c5, rfl, (hj3.keep hk7).keep hf, (hj4.keep hk7).keep hf, (hj5.keep hk7).keep hf, by unfold maxLen; omega, by unfold maxLen; omega, by unfold maxLen; omega, HC.out⟩)
  have HB7 := Lib.hid hb7
  clear hj3 hj4 hj5 hk7 hf hb6 hb7 s4 y4 s0 p0 p1 p2 p3 p4 p5
  go_wp2_with fail
  refine bodyPost_ret (v := .agg #[.bool s.start, .bool s.fin, .slice A3 a1 c3, .slice A4 a2 c4, .slice A5 a3 c5, .int .i64 s.cursor]) (by simp [results, Try.results12, go_sem, t0, t1, t2, t3, t4, t5]) rfl ⟨⟨_, rfl, HSX.out⟩, HB7.out⟩

end Go.Proofs.Ythcjiainpaebfaa
