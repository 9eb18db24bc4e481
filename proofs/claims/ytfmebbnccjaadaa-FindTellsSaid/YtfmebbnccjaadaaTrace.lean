/- The walk of vm.play where each step is told to Trace's closure, and of vm.Trace: the steps are traceGo's. -/
import Derived.Test.YtfmebbnccjaadaaPlay
namespace Go.Proofs.Ytfmebbnccjaadaa
open Go.RowKit

/-- The steps of a run from a state on: where, and which rule (below 0: none). -/
def traceGo (l : List RuleD) : Nat → List Int → List Int → List (Int × Int)
  | _, _, [] => []
  | 0, _, _ :: _ => []
  | left + 1, done, z :: rest =>
    (done.length, whichP l (done ++ z :: rest) done.length) :: (
    if whichP l (done ++ z :: rest) done.length < 0 then traceGo l left (done ++ [z]) rest
    else match l[(whichP l (done ++ z :: rest) done.length).toNat]? with
      | none => []
      | some r => traceGo l left (done ++ (r.target ++ (z :: rest).drop r.source.length).take r.cursor.toNat) ((r.target ++ (z :: rest).drop r.source.length).drop r.cursor.toNat))
theorem traceGo_nil (l : List RuleD) (left : Nat) (done : List Int) : traceGo l left done [] = [] := by cases left <;> rfl
theorem traceGo_none {l : List RuleD} {left : Nat} {done rest : List Int} {z : Int} (h : whichP l (done ++ z :: rest) done.length = -1) : traceGo l (left + 1) done (z :: rest) = ((done.length : Int), -1) :: traceGo l left (done ++ [z]) rest := by
  rw [traceGo, if_pos (by rw [h]; decide), h]
theorem traceGo_rule {l : List RuleD} {left : Nat} {done rest : List Int} {z : Int} {k : Nat} {r : RuleD} (h : whichP l (done ++ z :: rest) done.length = (k : Int)) (hk : l[k]? = some r) :
    traceGo l (left + 1) done (z :: rest) = ((done.length : Int), (k : Int)) :: traceGo l left (done ++ (r.target ++ (z :: rest).drop r.source.length).take r.cursor.toNat) ((r.target ++ (z :: rest).drop r.source.length).drop r.cursor.toNat) := by
  rw [traceGo, if_neg (by rw [h]; omega), h, Int.toNat_natCast, hk]
def shotCells (l : List (Int × Int)) : List Value := l.flatMap fun k => [.int .i64 k.1, .int .i64 k.2]
theorem shotCells_length (l : List (Int × Int)) : (shotCells l).length = l.length * 2 := by
  induction l with
  | nil => rfl
  | cons x l ih => simp only [shotCells, List.flatMap_cons] at ih ⊢; simp [ih]; omega
theorem shotCells_append (a b : List (Int × Int)) : shotCells (a ++ b) = shotCells a ++ shotCells b := by simp [shotCells]

theorem infoShot : (Try.prog.info? 93).map (fun i => (i.zero, i.size, i.bytes)) = some (some (.agg #[.int .i64 0, .int .i64 0]), 2, 16) := by kernel_rfl
/-- All blocks of w but g, and v's, are as they were. -/
structure TwoBut (g : Nat) (v : Value) (w w' : World) : Prop where
  os : w'.os = w.os
  tape : w'.tape = w.tape
  output : w'.output = w.output
  size : w.heap.size ≤ w'.heap.size
  block : ∀ k, k < w.heap.size → k ≠ g → v.ownBlock ≠ some k → w'.heap[k]? = w.heap[k]?

set_option maxRecDepth 100000 in
set_option maxHeartbeats 1600000 in
theorem told_trace (a r : Int) (g lo n : Nat) (v : Value) (xs : List Value) (w : World) (hg : Blk w g 88 #[v]) (ho : w.ownsRow lo 93 2 v n xs) (hlo : lo ≤ w.heap.size) (hgl : g < lo) (hn : n ≤ 100000) :
    Calls Try.prog 79 #[.int .i64 a, .int .i64 r, .pointer (some ⟨g, 0, none⟩)] w fun e w' => e = .returned (.tuple #[]) ∧ ∃ v', Blk w' g 88 #[v'] ∧ w'.ownsRow lo 93 2 v' (n + 1) (xs ++ [.int .i64 a, .int .i64 r]) ∧ TwoBut g v w w' := by
  obtain ⟨i1, hi1, q0, q1, q2⟩ := info_parts infoShot
  have HG := Lib.hid hg
  have HO := Lib.hid ho
  have c0 : w.cell? ⟨g, 0, none⟩ = some v := hg.cell 0
  have HO1 := Lib.hid (World.ownsRow.alloc ho (.cells #[.int .i64 a, .int .i64 r] 93))
  have HN := Lib.hid (Rd.new w 93 2 1 [.int .i64 a, .int .i64 r] rfl)
  have H1 := Lib.hid (show ∀ u ∈ [Value.int .i64 a, Value.int .i64 r], u.oneCell' = true by intro u hu; simp at hu; rcases hu with rfl | rfl <;> rfl)
  have hgw := hg.lt
  obtain ⟨A, c, rfl, hc⟩ := own_form ho
  clear hg ho
  go_enter Try.func79, Try.ntmps79
  go_wp2_with (at_builtin; refine wpList_append_rd _ rfl (.tmp 5) (.tmp 9) 88 rfl lo 93 i1 _ 2 16 Try.underlying88 hi1 q0 q1 q2 rfl (by decide) _ n _ rfl HO1.out _ (some ⟨w.heap.size, 0, none⟩) 1 1 [.int .i64 a, .int .i64 r] rfl HN.out H1.out (by simp only [maxLen]; omega) (by omega) (by simp; omega) ?_)
  intro v' w9 happ
  have hgb : w9.heap[g]? = w.heap[g]? := (happ.2.1.block g (by simp; omega) (fun e => by
    have := (own_lt HO1.out e.symm).1
    omega)).trans (heap_alloc_old w _ hgw)
  have hG9 : Blk w9 g 88 #[.slice A n c] := hgb.trans HG.out
  have d0 : w9.cell? ⟨g, 0, none⟩ = some (.slice A n c) := hG9.cell 0
  have d1 := hG9.frozen 0
  have HG9 := Lib.hid hG9
  obtain ⟨A', c', rfl, _⟩ := own_form happ.own
  have HAP := Lib.hid happ
  clear hgb hG9 happ
  go_wp2_with fail
  go_end0
  refine ⟨rfl, _, HG9.out.put 0 _, ?_, ?_, ?_, ?_, ?_, ?_⟩
  · exact own_setCell_ne (i := 0) HAP.out.own HG9.out (by decide)
  · exact HAP.out.2.1.os
  · exact HAP.out.2.1.tape
  · exact HAP.out.2.1.output
  · have := HAP.out.2.1.size
    simp at this ⊢
    omega
  · intro k hk hkg hkv
    rw [Below.heap_setCell _ _ _ _ (by simpa using hkg)]
    rw [HAP.out.2.1.block k (by simp; omega) (fun e => hkv e.symm)]
    exact heap_alloc_old w _ hk

/-- What play hands back where its steps were told. -/
def TracePost (w : World) (g : Nat) (o : OutD × (Int × Int)) (tr : List (Int × Int)) (e : Ending) (w' : World) : Prop :=
  PlayPost w.heap.size w' o e ∧ w.grownBy w' (some g) ∧ (o.2.1 = 0 → ∃ v, Blk w' g 88 #[v] ∧ w'.ownsRow w.heap.size 93 2 v tr.length (shotCells tr) ∧ tr.length ≤ 100000)
def traceP (l : List RuleD) (t : List Int) : List (Int × Int) := traceGo l (8 * t.length + 40) [] t
theorem gr_below {w w' : World} (g : Nat) (hb : Below w.heap.size w w') : w.grownBy w' (some g) := ⟨hb.os, hb.tape, hb.output, hb.size, fun i hi _ => hb.block i hi⟩
theorem gr_then {w w1 w2 : World} {g B : Nat} (h : w.grownBy w1 (some g)) (hb : Below B w1 w2) (hB : w.heap.size ≤ B) : w.grownBy w2 (some g) :=
  ⟨hb.os.trans h.os, hb.tape.trans h.tape, hb.output.trans h.output, Nat.le_trans h.size hb.size, fun i hi hn => (hb.block i (Nat.lt_of_lt_of_le hi hB)).trans (h.block i hi hn)⟩
theorem gr_set {w w1 : World} {g : Nat} (h : w.grownBy w1 (some g)) {p : Addr} (hp : w.heap.size ≤ p.block) (u : Value) : w.grownBy (w1.setCell p u) (some g) :=
  ⟨h.os, h.tape, h.output, by simpa [World.setCell] using h.size, fun i hi hne => (Below.heap_setCell w1 p u i (by rintro rfl; omega)).trans (h.block i hi hne)⟩
theorem gr_two {w w1 w2 : World} {g : Nat} {v : Value} (h : w.grownBy w1 (some g)) (ht : TwoBut g v w1 w2) (hv : ∀ k, v.ownBlock = some k → w.heap.size ≤ k) : w.grownBy w2 (some g) :=
  ⟨ht.os.trans h.os, ht.tape.trans h.tape, ht.output.trans h.output, Nat.le_trans h.size ht.size, fun i hi hn => (ht.block i (Nat.lt_of_lt_of_le hi h.size) (fun e => hn (by rw [e])) (fun e => by have := hv i e; omega)).trans (h.block i hi hn)⟩
theorem blk_two {w w' : World} {g b : Nat} {v : Value} {t : TypeId} {cs : Array Value} (ht : TwoBut g v w w') (h : Blk w b t cs) (hg : b ≠ g) (hv : v.ownBlock ≠ some b) : Blk w' b t cs := (ht.block b h.lt hg hv).trans h
theorem own_ne_blk2 {w : World} {base sz n : Nat} {T t : TypeId} {v : Value} {xs : List Value} {b : Nat} {cs : Array Value} (ho : w.ownsRow base T sz v n xs) (h : Blk w b t cs) (hne : T ≠ t) : v.ownBlock ≠ some b := by
  rcases ho.2 with ⟨rfl, _⟩ | ⟨g, cap, cur, rfl, _, hg, _⟩
  · simp [Value.ownBlock]
  · simp only [Value.ownBlock, ne_eq, Option.some.injEq]
    rintro rfl
    unfold Blk at h
    rw [hg] at h
    injection h with h
    injection h with _ h
    exact hne h
/-- The machine is as it was where only the steps' list was written. -/
theorem MachAt.two {lo : Nat} {w w' : World} {M b : Nat} {A Z : List Int} {l : List RuleD} {hs : List HeadD} {Ar : Option Addr} {nr cr : Nat} {Ah : Option Addr} {nh ch : Nat} {lim s p : Int} (h : MachAt lo w M b A Z l hs Ar nr cr Ah nh ch lim s p)
    {g n : Nat} {v : Value} {xs : List Value} (hg : g < lo) (ho : w.ownsRow lo 93 2 v n xs) (ht : TwoBut g v w w') (hr : ListX (RuleC w' (fun x => x < lo)) w' (fun x => x < lo) 7 Ar nr l) (hh : ListX (HeadC w' (fun x => x < lo)) w' (fun x => x < lo) 3 Ah nh hs) :
    MachAt lo w' M b A Z l hs Ar nr cr Ah nh ch lim s p := by
  obtain ⟨L, n', D, f, t, hb, h1, h2, h3, h4⟩ := h.buf
  have hM := h.ge
  exact ⟨h.ge, blk_two ht h.blk (by omega) (own_ne_blk2 ho h.blk (by decide)), ⟨L, n', D, f, t, ⟨blk_two ht hb.buf (by omega) (own_ne_blk2 ho hb.buf (by decide)), blk_two ht hb.row (by omega) (own_ne_blk2 ho hb.row (by decide)), hb.len, hb.le, hb.end_, hb.small⟩, h1, h2, h3, h4⟩, hr, hh⟩
/-- The blocks below lo, but g, are as in W5. -/
def Off (lo g : Nat) (W5 wr : World) : Prop := ∀ k, k < lo → k ≠ g → wr.heap[k]? = W5.heap[k]?
def VmRelT (w : World) (lo M b g : Nat) (l : List RuleD) (hs : List HeadD) (Ar : Option Addr) (nr cr : Nat) (Ah : Option Addr) (nh ch lim : Nat) (t : List Int) (W5 wr : World) : Prop :=
  ∃ (A Z : List Int) (s p : Nat), MachAt lo wr M b A Z l hs Ar nr cr Ah nh ch lim s p ∧ s ≤ lim ∧ p ≤ s ∧ (A ++ Z).length ≤ 4000 ∧ Runes (A ++ Z) ∧ runGo l lim [] t 0 0 = runGo l (lim - s) A Z s p ∧
    (Blk wr w.heap.size 25 #[.slice none 0 0, .int .i64 0, .int .i64 0] ∧ Blk wr (w.heap.size + 1) 28 #[.int .i64 0, .int .i64 0] ∧ w.grownBy wr (some g)) ∧
    Off lo g W5 wr ∧ ∃ (v : Value) (tr : List (Int × Int)), Blk wr g 88 #[v] ∧ wr.ownsRow lo 93 2 v s (shotCells tr) ∧ tr.length = s ∧ traceGo l lim [] t = tr ++ traceGo l (lim - s) A Z

theorem own_kq {w w' : World} {lo lo' sz n : Nat} {T : TypeId} {v : Value} {xs : List Value} (h : w.ownsRow lo T sz v n xs) (hk : Kq lo' w w') (h1 : T ≠ 21) (h2 : T ≠ 146) (h3 : T ≠ 124) : w'.ownsRow lo T sz v n xs := by
  refine ⟨h.1, ?_⟩
  rcases h.2 with h0 | ⟨g, cap, cur, rfl, hg, hh, r⟩
  · exact .inl h0
  · exact .inr ⟨g, cap, cur, rfl, hg, hk.other g _ _ hh h1 h2 h3, r⟩
theorem own_belowB {w w' : World} {lo sz n : Nat} {T : TypeId} {v : Value} {xs : List Value} (h : w.ownsRow lo T sz v n xs) (hk : ∀ k, v.ownBlock = some k → w'.heap[k]? = w.heap[k]?) : w'.ownsRow lo T sz v n xs := by
  refine ⟨h.1, ?_⟩
  rcases h.2 with h2 | ⟨g, cap, cur, rfl, hg, hh, r⟩
  · exact .inl h2
  · exact .inr ⟨g, cap, cur, rfl, hg, (hk g rfl).trans hh, r⟩
theorem blk_set_ne {w : World} {g : Nat} {t : TypeId} {cs : Array Value} (h : Blk w g t cs) {p : Addr} (hp : g ≠ p.block) (u : Value) : Blk (w.setCell p u) g t cs := (Below.heap_setCell w p u g hp).trans h
theorem own_set_low {w : World} {lo sz n : Nat} {T : TypeId} {v : Value} {xs : List Value} (h : w.ownsRow lo T sz v n xs) {p : Addr} (hp : p.block < lo) (u : Value) : (w.setCell p u).ownsRow lo T sz v n xs :=
  own_belowB h (fun k e => Below.heap_setCell w p u k (by have := (own_lt h e).1; omega))

set_option maxRecDepth 100000 in
set_option maxHeartbeats 6400000 in
theorem vm_playt (g : Nat) (X : Nat → Prop) (l : List RuleD) (Ar : Option Addr) (nr cr : Nat) (t : List Int) (At : Option Addr) (nt ct : Nat) (w : World) (hnr : nr ≤ maxLen) (hl : ListX (RuleC w X) w X 7 Ar nr l) (hX : ∀ b, X b → b ≠ g) (hG : Blk w g 88 #[.slice none 0 0]) (hnt : nt ≤ maxLen) (ht : RdR w w.heap.size At nt t) :
    Calls Try.prog 38 #[.slice Ar nr cr, .slice At nt ct, .func (.func 79) #[] #[.pointer (some ⟨g, 0, none⟩)]] w (TracePost w g (playP l t) (traceP l t)) := by
  have HGB := Lib.hid hG
  have hgl := hG.lt
  have HXG := Lib.hid hX
  clear hG hX
  have htl := ht.len
  have hb0 := ((Below.refl w.heap.size w).alloc (Nat.le_refl _) (.cells #[.slice none 0 0, .int .i64 0, .int .i64 0] 25)).alloc (by simp) (.cells #[.int .i64 0, .int .i64 0] 28)
  have HX0 := Lib.hid (Blk.alloc (Blk.new w 25 #[.slice none 0 0, .int .i64 0, .int .i64 0]) (.cells #[.int .i64 0, .int .i64 0] 28))
  have HY0 := Lib.hid (show Blk ((w.alloc (.cells #[.slice none 0 0, .int .i64 0, .int .i64 0] 25)).alloc (.cells #[.int .i64 0, .int .i64 0] 28)) (w.heap.size + 1) 28 #[.int .i64 0, .int .i64 0] by
    have := Blk.new (w.alloc (.cells #[.slice none 0 0, .int .i64 0, .int .i64 0] 25)) 28 #[.int .i64 0, .int .i64 0]
    simpa using this)
  have HB0 := Lib.hid hb0
  have HL := Lib.hid (fun (W : World) (hb : Below w.heap.size w W) => show ListX (RuleC W X) W X 7 Ar nr l from hl.keep (Keeps.any hb) (fun _ _ => RuleC.keep (Keeps.any hb)))
  have HTX := Lib.hid (fun (W : World) (hb : Below w.heap.size w W) => show RdR W W.heap.size At nt t from (Rd.below ht hb).more hb.size)
  clear hb0 hl ht
  generalize hW0 : (w.alloc (.cells #[.slice none 0 0, .int .i64 0, .int .i64 0] 25)).alloc (.cells #[.int .i64 0, .int .i64 0] 28) = W0 at *
  have HW := Lib.hid (run_wrong X l Ar nr cr W0 hnr (HL.out W0 HB0.out))
  go_enter Try.func38, Try.ntmps38
  go_wp2_with fail
  clear hW0
  refine HW.out.mono ?_
  rintro e w1 ⟨rfl, hb1⟩
  have HX1 := Lib.hid (Blk.below HX0.out hb1 HX0.out.lt)
  have HY1 := Lib.hid (Blk.below HY0.out hb1 HY0.out.lt)
  have HB1 := Lib.hid (HB0.out.trans (hb1.mono HB0.out.size))
  clear hb1 HW HX0 HY0 HB0
  obtain ⟨r1, r2, hR⟩ : ∃ r1 r2, rulesW l = (r1, r2) := ⟨_, _, rfl⟩
  rw [hR]
  by_cases hz : r1 = 0
  · subst hz
    have HRR := Lib.hid (right_rules (l := l) (by rw [hR]))
    have HRA := Lib.hid (right_all (l := l) (by rw [hR]))
    have HP := Lib.hid (show playP l t = if textP t ≠ 0 then (noOut, (textP t, 0)) else if (compP l).2.1 ≠ 0 then (noOut, (compP l).2) else okOut (runGo l (8 * t.length + 40) [] t 0 0) by unfold playP; rw [hR]; rfl)
    have HX2 := Lib.hid (HX1.out.alloc (.cells #[.int .i64 0, .int .i64 r2] 28))
    have HY2 := Lib.hid (HY1.out.alloc (.cells #[.int .i64 0, .int .i64 r2] 28))
    have HB2 := Lib.hid (HB1.out.alloc HB1.out.size (.cells #[.int .i64 0, .int .i64 r2] 28))
    have HMT := Lib.hid (match_text At nt ct t _ hnt (HTX.out _ HB2.out))
    clear hR HX1 HY1 HB1
    go_wp2_with fail
    refine HMT.out.mono ?_
    rintro e w3 ⟨rfl, hb3⟩
    have HX3 := Lib.hid (Blk.below HX2.out hb3 HX2.out.lt)
    have HY3 := Lib.hid (Blk.below HY2.out hb3 HY2.out.lt)
    have HB3 := Lib.hid (HB2.out.trans (hb3.mono HB2.out.size))
    clear hb3 HX2 HY2 HB2 HMT
    obtain ⟨tp, htp⟩ : ∃ tp, textP t = tp := ⟨_, rfl⟩
    rw [htp]
    have HP0 := Lib.hid (show playP l t = if tp ≠ 0 then (noOut, (tp, 0)) else if (compP l).2.1 ≠ 0 then (noOut, (compP l).2) else okOut (runGo l (8 * t.length + 40) [] t 0 0) by rw [← htp]; exact HP.out)
    clear HP
    by_cases hz : tp = 0
    · subst hz
      have HRT := Lib.hid (show t.length ≤ 4000 ∧ Runes t by
        unfold textP at htp
        by_cases h4 : 4000 < t.length
        · rw [if_pos h4] at htp; cases htp
        · rw [if_neg h4] at htp
          refine ⟨by omega, runes_of ?_⟩
          cases hb : badRune t
          · rfl
          · rw [hb] at htp; cases htp)
      have HCM := Lib.hid (compile_heads X l Ar nr cr w3 hnr (HL.out _ HB3.out))
      have HCK := Lib.hid (@comp_ok l)
      have HCV := Lib.hid (@comp_cover l)
      have HP2 := Lib.hid (HP0.out.trans (if_neg (by decide)))
      obtain ⟨hs, f1, f2, hC⟩ : ∃ hs f1 f2, compP l = (hs, (f1, f2)) := ⟨_, _, _, rfl⟩
      rw [hC] at HCM HCK HCV HP2
      clear htp HP0 hC
      dsimp only at HCM HCK HCV HP2
      go_wp2_with fail
      refine HCM.out.mono ?_
      rintro e w4 ⟨⟨v, rfl, hv⟩, hb4⟩
      obtain ⟨Ah, ch, rfl, hh, _⟩ := hv.form
      have HX4 := Lib.hid (Blk.alloc (Blk.below HX3.out hb4 HX3.out.lt) (.cells #[.int .i64 f1, .int .i64 f2] 28))
      have HY4 := Lib.hid (Blk.alloc (Blk.below HY3.out hb4 HY3.out.lt) (.cells #[.int .i64 f1, .int .i64 f2] 28))
      have HQ4 := Lib.hid (Blk.new w4 28 #[.int .i64 f1, .int .i64 f2])
      have HB4a := Lib.hid (HB3.out.trans (hb4.mono HB3.out.size))
      have HB4 := Lib.hid (HB4a.out.alloc HB4a.out.size (.cells #[.int .i64 f1, .int .i64 f2] 28))
      have hba := (Below.refl w4.heap.size w4).alloc (Nat.le_refl _) (.cells #[.int .i64 f1, .int .i64 f2] 28)
      have HH4 := Lib.hid (hh.keep (Keeps.below hba (fun b h _ => (show w.heap.size ≤ b from Nat.le_trans HB3.out.size h))) (fun _ _ => HeadC.keep (X' := fun b => w.heap.size ≤ b) (Keeps.below hba (fun b h _ => (show w.heap.size ≤ b from Nat.le_trans HB3.out.size h)))))
      have hx4 : w.heap.size < w4.heap.size := Nat.lt_of_lt_of_le HX3.out.lt hb4.size
      have hy4 : w.heap.size + 1 < w4.heap.size := Nat.lt_of_lt_of_le HY3.out.lt hb4.size
      clear hv hh hb4 hba HX3 HY3 HB3 HCM HB4a
      by_cases hz : f1 = 0
      · subst hz
        have HP3 := Lib.hid (HP2.out.trans (if_neg (by decide)))
        have hn4 := (HCK.out rfl).2.2
        have HCO := Lib.hid (HCV.out rfl)
        have hlen2 : l.length ≤ 200 := HRR.out.size
        obtain ⟨lim, hlim⟩ : ∃ lim : Nat, lim = 8 * t.length + 40 := ⟨_, rfl⟩
        have HPR := Lib.hid (show playP l t = okOut (runGo l lim [] t 0 0) by rw [HP3.out, hlim])
        have hlim1 : lim ≤ 32040 := by have := HRT.out.1; omega
        have HX5 := Lib.hid HX4.out
        have HY5 := Lib.hid HY4.out
        have HB5 := Lib.hid HB4.out
        have HH5 := Lib.hid HH4.out
        clear HX4 HY4 HB4 HH4 HP2 HP3 HCK HCV
        generalize hW5 : (w4.alloc (.cells #[.int .i64 0, .int .i64 f2] 28)) = W5 at *
        have hw5 : w4.heap.size < W5.heap.size := by rw [← hW5]; simp
        have q0 := HQ4.out.cell 0
        have HG5 := Lib.hid (show Blk W5 g 88 #[.slice none 0 0] from Blk.below HGB.out HB5.out hgl)
        have HR5 := Lib.hid (fun (W : World) (ho : Off W5.heap.size g W5 W) (hsz : W5.heap.size ≤ W.heap.size) => show ListX (RuleC W (fun x => x < W5.heap.size)) W (fun x => x < W5.heap.size) 7 Ar nr l from
          (HL.out W5 HB5.out).keep (fun b hb hl => ⟨ho b hl (HXG.out b hb), hl, Nat.lt_of_lt_of_le hl hsz⟩) (fun _ _ => RuleC.keep (fun b hb hl => ⟨ho b hl (HXG.out b hb), hl, Nat.lt_of_lt_of_le hl hsz⟩)))
        have HH6 := Lib.hid (fun (W : World) (ho : Off W5.heap.size g W5 W) (hsz : W5.heap.size ≤ W.heap.size) => show ListX (HeadC W (fun x => x < W5.heap.size)) W (fun x => x < W5.heap.size) 3 Ah hs.length hs from
          HH5.out.keep (fun b hb hl => ⟨ho b hl (by have : g < b := Nat.lt_of_lt_of_le hgl hb; omega), hl, Nat.lt_of_lt_of_le hl hsz⟩) (fun _ _ => HeadC.keep (fun b hb hl => ⟨ho b hl (by have : g < b := Nat.lt_of_lt_of_le hgl hb; omega), hl, Nat.lt_of_lt_of_le hl hsz⟩)))
        have HNW := Lib.hid (gap_new t At nt ct W5 (HTX.out W5 HB5.out) (by have := HRT.out.1; omega))
        have HLM := Lib.hid (fun W => run_limit nt (by have := HRT.out.1; omega) W)
        have hlim2 : ((8 * nt + 40 : Nat) : Int) = (lim : Int) := by omega
        rw [hlim2] at HLM
        go_upto_region 10 with fail
        clear hW5 q0
        go_wp2_with fail
        refine HNW.out.mono ?_
        rintro e w6 ⟨rfl, hbuf, hb6⟩
        have HBU := Lib.hid hbuf
        have HB6 := Lib.hid hb6
        clear hbuf hb6 HNW
        go_wp2_with fail
        refine (HLM.out _).mono ?_
        rintro e w7 ⟨rfl, h7⟩
        obtain rfl := h7.symm
        have hb7 := HB6.out.alloc HB6.out.size (.cells (MCells (W5.heap.size + 1) Ar nr cr Ah hs.length ch lim 0 0) 124)
        have HM0 := Lib.hid (show MachAt W5.heap.size (w6.alloc (.cells (MCells (W5.heap.size + 1) Ar nr cr Ah hs.length ch lim 0 0) 124)) w6.heap.size (W5.heap.size + 1) [] t l hs Ar nr cr Ah hs.length ch lim 0 0 from
          ⟨HB6.out.size, Blk.new _ _ _, HBU.out.below ((Below.refl _ _).alloc (Nat.le_refl _) _),
           (HL.out W5 HB5.out).keep (Keeps.below hb7 (fun _ _ hl => hl)) (fun _ _ => RuleC.keep (Keeps.below hb7 (fun _ _ hl => hl))),
           HH5.out.keep (Keeps.below hb7 (fun _ _ hl => hl)) (fun _ _ => HeadC.keep (Keeps.below hb7 (fun _ _ hl => hl)))⟩)
        have HXY0 := Lib.hid (show Blk (w6.alloc (.cells (MCells (W5.heap.size + 1) Ar nr cr Ah hs.length ch lim 0 0) 124)) w.heap.size 25 #[.slice none 0 0, .int .i64 0, .int .i64 0] ∧ Blk (w6.alloc (.cells (MCells (W5.heap.size + 1) Ar nr cr Ah hs.length ch lim 0 0) 124)) (w.heap.size + 1) 28 #[.int .i64 0, .int .i64 0] ∧ w.grownBy (w6.alloc (.cells (MCells (W5.heap.size + 1) Ar nr cr Ah hs.length ch lim 0 0) 124)) (some g) from
          ⟨Blk.below HX5.out hb7 (by omega), Blk.below HY5.out hb7 (by omega), gr_below g (HB5.out.trans (hb7.mono (by omega)))⟩)
        have HT0 := Lib.hid (show Off W5.heap.size g W5 (w6.alloc (.cells (MCells (W5.heap.size + 1) Ar nr cr Ah hs.length ch lim 0 0) 124)) ∧ Blk (w6.alloc (.cells (MCells (W5.heap.size + 1) Ar nr cr Ah hs.length ch lim 0 0) 124)) g 88 #[.slice none 0 0] from ⟨fun k hk _ => hb7.block k hk, Blk.below HG5.out hb7 HG5.out.lt⟩)
        simp only [MCells] at HM0 HXY0 HT0
        clear hb7 HLM HX5 HY5
        go_wp2_with fail
        generalize hM : w6.heap.size = M at *
        generalize hlo : W5.heap.size = lo at *
        go_loopw [] (VmRelT w lo M (lo + 1) g l hs Ar nr cr Ah hs.length ch lim t W5) (fun wr => lim - stepsOf M wr)
        case atStart => exact ⟨[], t, 0, 0, HM0.out, Nat.zero_le _, Nat.le_refl _, HRT.out.1, HRT.out.2, rfl, HXY0.out, HT0.out.1, _, [], HT0.out.2, World.ownsRow_nil _ _ _ _, rfl, rfl⟩
        case round =>
          obtain ⟨A, Z, s, p, hma, hsl, hps, hTl, hTr, hgo, hxy, hoff, v0, tr, hgv, hov, htl0, htr⟩ := hrel
          have HOFF := Lib.hid hoff
          have HGV := Lib.hid hgv
          have HOV := Lib.hid hov
          have HTL0 := Lib.hid htl0
          have HTRC := Lib.hid htr
          clear hoff hgv hov htl0 htr
          have HMA := Lib.hid hma
          have HXY := Lib.hid hxy
          have HGO := Lib.hid hgo
          have HTR := Lib.hid hTr
          have hsteps : stepsOf M wr = s := by
            unfold stepsOf
            rw [hma.blk.cell]
            simp [MCells]
          have HST := Lib.hid hsteps
          have m0 : wr.cell? ⟨M, 0, none⟩ = some (.pointer (some ⟨lo + 1, 0, none⟩)) := hma.blk.cell 0
          have HAT := Lib.hid (fun (q : Nat) => buf_at (HMA.out.buf.below (below_drewN (Below.refl wr.heap.size wr) q)))
          have HLN := Lib.hid (fun (q : Nat) => buf_len (HMA.out.buf.below (below_drewN (Below.refl wr.heap.size wr) q)))
          clear hma hxy hgo hsteps hTr
          cases Z with
          | nil =>
            have HLN2 := Lib.hid (fun (q : Nat) => show Calls Try.prog 72 #[.pointer (some ⟨lo + 1, 0, none⟩)] (wr.drewN q) fun e w' => e = .returned (.int .i64 A.length) ∧ ∃ k, w' = (wr.drewN q).drewN k by simpa using HLN.out q)
            have hA0 : decide ((A.length : Int) < (A.length : Int)) = false := decide_eq_false (by omega)
            have HRU := Lib.hid (fun (q : Nat) => buf_runes (HMA.out.buf.below (below_drewN (Below.refl wr.heap.size wr) q)))
            have HPF := Lib.hid (show playP l t = (⟨A, s, p⟩, (0, 0)) by rw [HPR.out, HGO.out, runGo_nil]; rfl)
            go_wp2_with fail
            go_quiet (first | (go_at_call 71; exact Calls.quiet_of_same (HAT.out _)) | (go_at_call 72; exact Calls.quiet_of (HLN2.out _)))
            have m0' : (wr.drewN nq).cell? ⟨M, 0, none⟩ = some (.pointer (some ⟨lo + 1, 0, none⟩)) := m0
            go_wp2_with fail
            refine (HRU.out nq).mono ?_
            rintro e w8 ⟨⟨v, rfl, ho⟩, hb8⟩
            obtain ⟨Av, cv, rfl, _⟩ := own_form ho
            rw [List.append_nil] at ho ⊢
            have hb8' : Below wr.heap.size wr w8 := (below_drewN (Below.refl wr.heap.size wr) nq).trans hb8
            have hM8 := Blk.below HMA.out.blk hb8' HMA.out.blk.lt
            have HX8 := Lib.hid (Blk.below HXY.out.1 hb8' HXY.out.1.lt)
            have HY8 := Lib.hid (Blk.below HXY.out.2.1 hb8' HXY.out.2.1.lt)
            have HB8 := Lib.hid (gr_then HXY.out.2.2 hb8' HXY.out.2.2.size)
            have HG8 := Lib.hid (Blk.below HGV.out hb8' HGV.out.lt)
            have HO8 := Lib.hid (own_below HOV.out hb8')
            have hwM : w.heap.size + 1 < M := by
              have h1 := HXY0.out.2.1.lt
              have h2 := HM0.out.ge
              omega
            have u4 : w8.cell? ⟨M, 4, none⟩ = some (.slice none 0 0) := hM8.cell 4
            have g4 := hM8.frozen 4
            have hM9 := Lib.hid (hM8.put 4 (.slice Av A.length cv))
            have hMlt := HMA.out.blk.lt
            have hRD := Lib.hid (show RdX w8 (fun b => wr.heap.size ≤ b) 1 Av A.length (runeCells A) from RdX.of_own ho (fun b hb => (own_lt ho hb).1))
            have hX9 := HX8.out.other hM8 (by decide) 4 (.slice Av A.length cv)
            have hY9 := HY8.out.other hM8 (by decide) 4 (.slice Av A.length cv)
            have hB9 := gr_set (p := ⟨M, 4, none⟩) HB8.out (by simp only; omega) (.slice Av A.length cv)
            have hgM : g ≠ M := by omega
            have hG9 := HG8.out.other hM8 (by decide) 4 (.slice Av A.length cv)
            have hO9 := own_setCell_ne (i := 4) (u := .slice Av A.length cv) HO8.out hM8 (by decide)
            have HRD9 := Lib.hid (hRD.out.keep (Keeps.setCell (p := ⟨M, 4, none⟩) (.slice Av A.length cv) (fun b hb => by simp only; omega) (fun b h _ => (h : wr.heap.size ≤ b))))
            clear ho hb8 hb8' hM8 HX8 HY8 HB8
            go_upto_region 18 with fail
            generalize hW9 : w8.setCell ⟨M, 4, none⟩ (.slice Av A.length cv) = W9 at *
            have o4 : W9.cell? ⟨M, 4, none⟩ = some (.slice Av A.length cv) := hM9.out.cell 4
            have o5 : W9.cell? ⟨M, 5, none⟩ = some (.int .i64 s) := hM9.out.cell 5
            have o6 : W9.cell? ⟨M, 6, none⟩ = some (.int .i64 p) := hM9.out.cell 6
            have hX := hX9
            have hY := hY9
            have x0 := hX.cell 0
            have x1 := hX.cell 1
            have x2 := hX.cell 2
            have y0 := hY.cell 0
            have y1 := hY.cell 1
            have p0 := hX.frozen 0
            have p1 := hX.frozen 1
            have p2 := hX.frozen 2
            have p3 := hY.frozen 0
            have p4 := hY.frozen 1
            have hbf := gr_set (p := ⟨w.heap.size + 1, 1, none⟩) (gr_set (p := ⟨w.heap.size + 1, 0, none⟩) (gr_set (p := ⟨w.heap.size, 2, none⟩) (gr_set (p := ⟨w.heap.size, 1, none⟩) (gr_set (p := ⟨w.heap.size, 0, none⟩) (hB9) (by simp) (.slice Av A.length cv)) (by simp) (.int .i64 s)) (by simp) (.int .i64 p)) (by simp) (.int .i64 0)) (by simp) (.int .i64 0)
            have HBF := Lib.hid hbf
            have HGF := Lib.hid (show ∃ v, Blk ((((((W9).setCell ⟨w.heap.size, 0, none⟩ (.slice Av A.length cv)).setCell ⟨w.heap.size, 1, none⟩ (.int .i64 s)).setCell ⟨w.heap.size, 2, none⟩ (.int .i64 p)).setCell ⟨w.heap.size + 1, 0, none⟩ (.int .i64 0)).setCell ⟨w.heap.size + 1, 1, none⟩ (.int .i64 0)) g 88 #[v] ∧ ((((((W9).setCell ⟨w.heap.size, 0, none⟩ (.slice Av A.length cv)).setCell ⟨w.heap.size, 1, none⟩ (.int .i64 s)).setCell ⟨w.heap.size, 2, none⟩ (.int .i64 p)).setCell ⟨w.heap.size + 1, 0, none⟩ (.int .i64 0)).setCell ⟨w.heap.size + 1, 1, none⟩ (.int .i64 0)).ownsRow w.heap.size 93 2 v (traceP l t).length (shotCells (traceP l t)) ∧ (traceP l t).length ≤ 100000 by
              have e1 : traceP l t = tr := by unfold traceP; rw [← hlim, HTRC.out, traceGo_nil, List.append_nil]
              rw [e1, HTL0.out]
              exact ⟨v0, blk_set_ne (blk_set_ne (blk_set_ne (blk_set_ne (blk_set_ne (hG9) (p := ⟨w.heap.size, 0, none⟩) (by simp only; omega) (.slice Av A.length cv)) (p := ⟨w.heap.size, 1, none⟩) (by simp only; omega) (.int .i64 s)) (p := ⟨w.heap.size, 2, none⟩) (by simp only; omega) (.int .i64 p)) (p := ⟨w.heap.size + 1, 0, none⟩) (by simp only; omega) (.int .i64 0)) (p := ⟨w.heap.size + 1, 1, none⟩) (by simp only; omega) (.int .i64 0), own_mono (own_set_low (own_set_low (own_set_low (own_set_low (own_set_low (hO9) (p := ⟨w.heap.size, 0, none⟩) (by simp only; omega) (.slice Av A.length cv)) (p := ⟨w.heap.size, 1, none⟩) (by simp only; omega) (.int .i64 s)) (p := ⟨w.heap.size, 2, none⟩) (by simp only; omega) (.int .i64 p)) (p := ⟨w.heap.size + 1, 0, none⟩) (by simp only; omega) (.int .i64 0)) (p := ⟨w.heap.size + 1, 1, none⟩) (by simp only; omega) (.int .i64 0)) (by omega), by omega⟩)
            have HRF := Lib.hid (HRD9.out.keep (X' := fun b => w.heap.size ≤ b) (((((Keeps.setCell (X' := fun b => wr.heap.size ≤ b) (p := ⟨w.heap.size, 0, none⟩) (.slice Av A.length cv) (fun b h => by have h' : wr.heap.size ≤ b := h; simp only; omega) (fun _ h _ => h)).trans (Keeps.setCell (X' := fun b => wr.heap.size ≤ b) (p := ⟨w.heap.size, 1, none⟩) (.int .i64 s) (fun b h => by have h' : wr.heap.size ≤ b := h; simp only; omega) (fun _ h _ => h))).trans (Keeps.setCell (X' := fun b => wr.heap.size ≤ b) (p := ⟨w.heap.size, 2, none⟩) (.int .i64 p) (fun b h => by have h' : wr.heap.size ≤ b := h; simp only; omega) (fun _ h _ => h))).trans (Keeps.setCell (X' := fun b => wr.heap.size ≤ b) (p := ⟨w.heap.size + 1, 0, none⟩) (.int .i64 0) (fun b h => by have h' : wr.heap.size ≤ b := h; simp only; omega) (fun _ h _ => h))).trans (Keeps.setCell (p := ⟨w.heap.size + 1, 1, none⟩) (.int .i64 0) (fun b h => by have h' : wr.heap.size ≤ b := h; simp only; omega) (fun b h _ => by have h' : wr.heap.size ≤ b := h; have := HXY.out.2.2.size; omega))))
            clear hX hY hbf hX9 hY9 hB9 u4 g4 hW9
            go_wp2_with fail
            rw [HPF.out]
            exact bodyPost_ret (v := .tuple #[.agg #[.slice Av A.length cv, .int .i64 s, .int .i64 p], .agg #[.int .i64 0, .int .i64 0]]) (by simp [results, Try.results38, go_sem, x0, x1, x2, y0, y1]) rfl ⟨⟨Av, A.length, cv, rfl, HRF.out⟩, HBF.out, fun _ => HGF.out⟩
          | cons z Z' =>
            have hA1 : decide ((A.length : Int) < ((A.length + (z :: Z').length : Nat) : Int)) = true := decide_eq_true (by simp only [List.length_cons]; omega)
            have hzx : (A ++ z :: Z')[A.length]? = some z := by simp
            have hz0 := HTR.out z (by simp)
            have hTl2 : (A ++ z :: Z').length = A.length + (Z'.length + 1) := by rw [List.length_append, List.length_cons]
            have hlo1 : w.heap.size + 1 < lo := by
              have := HB5.out.size
              omega
            go_wp2_with fail
            go_quiet (first | (go_at_call 71; exact Calls.quiet_of_same (HAT.out _)) | (go_at_call 72; exact Calls.quiet_of (HLN.out _)))
            have m0' : (wr.drewN nq).cell? ⟨M, 0, none⟩ = some (.pointer (some ⟨lo + 1, 0, none⟩)) := m0
            go_wp2_with fail
            refine (HAT.out nq).mono ?_
            rintro e w8 ⟨rfl, h8⟩
            have hb8 : Below wr.heap.size wr w8 := by rw [h8]; exact below_drewN (Below.refl _ _) nq
            have HM8 := Lib.hid (HMA.out.below hb8)
            have HXY8 := Lib.hid (show Blk w8 w.heap.size 25 #[.slice none 0 0, .int .i64 0, .int .i64 0] ∧ Blk w8 (w.heap.size + 1) 28 #[.int .i64 0, .int .i64 0] ∧ w.grownBy w8 (some g) from ⟨Blk.below HXY.out.1 hb8 HXY.out.1.lt, Blk.below HXY.out.2.1 hb8 HXY.out.2.1.lt, gr_then HXY.out.2.2 hb8 HXY.out.2.2.size⟩)
            have HG8 := Lib.hid (Blk.below HGV.out hb8 HGV.out.lt)
            have HO8 := Lib.hid (own_below HOV.out hb8)
            have HF8 := Lib.hid (show Off lo g W5 w8 from fun k hk hg => (hb8.block k (by have := HMA.out.blk.lt; have := HMA.out.ge; omega)).trans (HOFF.out k hk hg))
            clear m0 m0' HAT HLN hb8 h8 hA1
            by_cases hsx : s = lim
            · have HGO := Lib.hid (show runGo l lim [] t 0 0 = (noOut, 9) by rw [HGO.out, show lim - s = 0 by omega]; exact runGo_zero l A s p (by simp))
              have HSL := Lib.hid (step_limit HM8.out hsx (by omega))
              go_wp2_with fail
              refine HSL.out.mono ?_
              rintro e w9 ⟨rfl, kq, h9⟩
              have hb9 : Below lo w8 w9 := by rw [h9]; exact below_drewN (Below.refl _ _) kq
              have HXY9 := Lib.hid (show Blk w9 w.heap.size 25 #[.slice none 0 0, .int .i64 0, .int .i64 0] ∧ Blk w9 (w.heap.size + 1) 28 #[.int .i64 0, .int .i64 0] ∧ w.grownBy w9 (some g) from ⟨Blk.below HXY8.out.1 hb9 (by omega), Blk.below HXY8.out.2.1 hb9 (by omega), gr_then HXY8.out.2.2 hb9 (by omega)⟩)
              have hb9x := hb9
              clear hb9 h9
              have HP := Lib.hid (show playP l t = (noOut, (9, 0)) by rw [HPR.out, HGO.out]; rfl)
              have hX := HXY9.out.1
              have hY := HXY9.out.2.1
              have x0 := hX.cell 0
              have x1 := hX.cell 1
              have x2 := hX.cell 2
              have y0 := hY.cell 0
              have y1 := hY.cell 1
              have p0 := hX.frozen 0
              have p1 := hX.frozen 1
              have p2 := hX.frozen 2
              have p3 := hY.frozen 0
              have p4 := hY.frozen 1
              have hbf := gr_set (p := ⟨w.heap.size + 1, 1, none⟩) (gr_set (p := ⟨w.heap.size + 1, 0, none⟩) (gr_set (p := ⟨w.heap.size, 2, none⟩) (gr_set (p := ⟨w.heap.size, 1, none⟩) (gr_set (p := ⟨w.heap.size, 0, none⟩) (HXY9.out.2.2) (by simp) (.slice none 0 0)) (by simp) (.int .i64 0)) (by simp) (.int .i64 0)) (by simp) (.int .i64 9)) (by simp) (.int .i64 0)
              have HBF := Lib.hid hbf
              clear hX hY hbf
              go_wp2_with fail
              rw [HP.out]
              exact bodyPost_ret (v := .tuple #[.agg #[.slice none 0 0, .int .i64 0, .int .i64 0], .agg #[.int .i64 9, .int .i64 0]]) (by simp [results, Try.results38, go_sem, x0, x1, x2, y0, y1]) rfl ⟨⟨none, 0, 0, rfl, ⟨rfl, fun h => absurd h (Nat.lt_irrefl 0)⟩⟩, HBF.out, fun h => absurd h (by decide)⟩
            · rcases whichP_range l (A ++ z :: Z') A.length with hwh | ⟨k, r, hwh, hk, hhere⟩
              · have HGO2 := Lib.hid (show runGo l lim [] t 0 0 = runGo l (lim - (s + 1)) (A ++ [z]) Z' (s + 1) p by rw [HGO.out, show lim - s = (lim - (s + 1)) + 1 by omega, runGo_none hwh])
                have HTR2 := Lib.hid (show traceGo l lim [] t = (tr ++ [((A.length : Int), -1)]) ++ traceGo l (lim - (s + 1)) (A ++ [z]) Z' by rw [HTRC.out, show lim - s = (lim - (s + 1)) + 1 by omega, traceGo_none hwh, List.append_assoc]; rfl)
                have HSN := Lib.hid (step_none_q HM8.out z Z' rfl z hzx hz0 hTl hn4 HCO.out HRA.out hlen2 (by omega) (by omega) hwh)
                clear hwh
                go_wp2_with fail
                refine HSN.out.mono ?_
                rintro e w9 ⟨rfl, hm9, hkq⟩
                have hb9 := hkq.below
                have HM9 := Lib.hid hm9
                have HXY9 := Lib.hid (show Blk w9 w.heap.size 25 #[.slice none 0 0, .int .i64 0, .int .i64 0] ∧ Blk w9 (w.heap.size + 1) 28 #[.int .i64 0, .int .i64 0] ∧ w.grownBy w9 (some g) from ⟨Blk.below HXY8.out.1 hb9 (by omega), Blk.below HXY8.out.2.1 hb9 (by omega), gr_then HXY8.out.2.2 hb9 (by omega)⟩)
                have hb9x := hb9
                clear hm9 hb9
                have HG9 := Lib.hid (Blk.below HG8.out hb9x (by omega))
                have HO9 := Lib.hid (own_kq HO8.out hkq (by decide) (by decide) (by decide))
                have HF9 := Lib.hid (show Off lo g W5 w9 from fun k hk hg => (hb9x.block k hk).trans (HF8.out k hk hg))
                have hs9 := hb9x.size
                have hM8l := HM8.out.blk.lt
                have hM8g := HM8.out.ge
                clear hb9x hkq
                go_wp2_with fail
                refine (told_trace _ _ g lo s v0 (shotCells tr) _ HG9.out HO9.out (by omega) (by omega) (by omega)).mono ?_
                rintro e w10 ⟨rfl, v10, hg10, ho10, htw⟩
                have HG10 := Lib.hid hg10
                have HO10 := Lib.hid (show w10.ownsRow lo 93 2 v10 (s + 1) (shotCells (tr ++ [((A.length : Int), -1)])) by rw [shotCells_append]; exact ho10)
                have HF10 := Lib.hid (show Off lo g W5 w10 from fun k hk hg => (htw.block k (by omega) hg (fun e => by have := (own_lt HO9.out e).1; omega)).trans (HF9.out k hk hg))
                have HM10 := Lib.hid (HM9.out.two (by omega) HO9.out htw (HR5.out w10 (HF10.out) (Nat.le_trans (by omega) htw.size)) (HH6.out w10 HF10.out (Nat.le_trans (by omega) htw.size)))
                have HXY10 := Lib.hid (show Blk w10 w.heap.size 25 #[.slice none 0 0, .int .i64 0, .int .i64 0] ∧ Blk w10 (w.heap.size + 1) 28 #[.int .i64 0, .int .i64 0] ∧ w.grownBy w10 (some g) from ⟨blk_two htw HXY9.out.1 (by omega) (own_ne_blk2 HO9.out HXY9.out.1 (by decide)), blk_two htw HXY9.out.2.1 (by omega) (own_ne_blk2 HO9.out HXY9.out.2.1 (by decide)), gr_two HXY9.out.2.2 htw (fun k e => by have := (own_lt HO9.out e).1; omega)⟩)
                clear hg10 ho10 htw hs9 hM8l hM8g
                go_wp2_with fail
                refine ⟨⟨A ++ [z], Z', s + 1, p, HM10.out, by omega, by omega, by rw [List.append_assoc]; exact hTl, by rw [List.append_assoc]; exact HTR.out, HGO2.out, HXY10.out, HF10.out, v10, _, HG10.out, HO10.out, by rw [List.length_append, HTL0.out]; rfl, HTR2.out⟩, ?_⟩
                have e9 : stepsOf M w10 = s + 1 := by
                  unfold stepsOf
                  rw [HM10.out.blk.cell]
                  simp [MCells]
                rw [HST.out, e9]
                omega
              · have hfit := here_fits hhere
                have hrr := HRA.out r (List.mem_of_getElem? hk)
                have hs1 := hfit
                have HZZ := Lib.hid (show (r.target ++ (z :: Z').drop r.source.length).length = r.target.length + ((z :: Z').length - r.source.length) by rw [List.length_append, List.length_drop])
                by_cases hmu : 4000 < A.length + (r.target ++ (z :: Z').drop r.source.length).length
                · have HGO := Lib.hid (show runGo l lim [] t 0 0 = (noOut, 4) by rw [HGO.out, show lim - s = (lim - (s + 1)) + 1 by omega]; exact runGo_much hwh hk hmu)
                  have HSM := Lib.hid (step_much HM8.out k r hk z hzx hz0 hTl hn4 HCO.out HRA.out hlen2 (by omega) (by omega) (by omega) hwh hfit (by rw [HZZ.out] at hmu; omega))
                  clear hwh hk hhere hrr hmu
                  go_wp2_with fail
                  refine HSM.out.mono ?_
                  rintro e w9 ⟨rfl, hb9⟩
                  have HXY9 := Lib.hid (show Blk w9 w.heap.size 25 #[.slice none 0 0, .int .i64 0, .int .i64 0] ∧ Blk w9 (w.heap.size + 1) 28 #[.int .i64 0, .int .i64 0] ∧ w.grownBy w9 (some g) from ⟨Blk.below HXY8.out.1 hb9 (by omega), Blk.below HXY8.out.2.1 hb9 (by omega), gr_then HXY8.out.2.2 hb9 (by omega)⟩)
                  have hb9x := hb9
                  clear hb9
                  have HP := Lib.hid (show playP l t = (noOut, (4, 0)) by rw [HPR.out, HGO.out]; rfl)
                  have hX := HXY9.out.1
                  have hY := HXY9.out.2.1
                  have x0 := hX.cell 0
                  have x1 := hX.cell 1
                  have x2 := hX.cell 2
                  have y0 := hY.cell 0
                  have y1 := hY.cell 1
                  have p0 := hX.frozen 0
                  have p1 := hX.frozen 1
                  have p2 := hX.frozen 2
                  have p3 := hY.frozen 0
                  have p4 := hY.frozen 1
                  have hbf := gr_set (p := ⟨w.heap.size + 1, 1, none⟩) (gr_set (p := ⟨w.heap.size + 1, 0, none⟩) (gr_set (p := ⟨w.heap.size, 2, none⟩) (gr_set (p := ⟨w.heap.size, 1, none⟩) (gr_set (p := ⟨w.heap.size, 0, none⟩) (HXY9.out.2.2) (by simp) (.slice none 0 0)) (by simp) (.int .i64 0)) (by simp) (.int .i64 0)) (by simp) (.int .i64 4)) (by simp) (.int .i64 0)
                  have HBF := Lib.hid hbf
                  clear hX hY hbf
                  go_wp2_with fail
                  rw [HP.out]
                  exact bodyPost_ret (v := .tuple #[.agg #[.slice none 0 0, .int .i64 0, .int .i64 0], .agg #[.int .i64 4, .int .i64 0]]) (by simp [results, Try.results38, go_sem, x0, x1, x2, y0, y1]) rfl ⟨⟨none, 0, 0, rfl, ⟨rfl, fun h => absurd h (Nat.lt_irrefl 0)⟩⟩, HBF.out, fun h => absurd h (by decide)⟩
                · have HGO2 := Lib.hid (show runGo l lim [] t 0 0 = runGo l (lim - (s + 1)) ((A ++ r.target ++ (z :: Z').drop r.source.length).take (A.length + r.cursor.toNat)) ((A ++ r.target ++ (z :: Z').drop r.source.length).drop (A.length + r.cursor.toNat)) (s + 1) (p + 1) by
                    rw [HGO.out, show lim - s = (lim - (s + 1)) + 1 by omega, runGo_rule hwh hk hmu, List.append_assoc, take_past, drop_past])
                  have HTR2 := Lib.hid (show traceGo l lim [] t = (tr ++ [((A.length : Int), (k : Int))]) ++ traceGo l (lim - (s + 1)) ((A ++ r.target ++ (z :: Z').drop r.source.length).take (A.length + r.cursor.toNat)) ((A ++ r.target ++ (z :: Z').drop r.source.length).drop (A.length + r.cursor.toNat)) by
                    rw [HTRC.out, show lim - s = (lim - (s + 1)) + 1 by omega, traceGo_rule hwh hk, List.append_assoc A, take_past, drop_past, List.append_assoc tr]; rfl)
                  have HSR := Lib.hid (step_rule_q HM8.out k r hk z hzx hz0 hTl hn4 HCO.out HRA.out hlen2 (by omega) (by omega) (by omega) hwh hfit (by rw [HZZ.out] at hmu; omega))
                  have HNR := Lib.hid (show ((A ++ r.target ++ (z :: Z').drop r.source.length).take (A.length + r.cursor.toNat) ++ (A ++ r.target ++ (z :: Z').drop r.source.length).drop (A.length + r.cursor.toNat)).length ≤ 4000 ∧ Runes ((A ++ r.target ++ (z :: Z').drop r.source.length).take (A.length + r.cursor.toNat) ++ (A ++ r.target ++ (z :: Z').drop r.source.length).drop (A.length + r.cursor.toNat)) by
                    rw [List.take_append_drop]
                    refine ⟨by rw [List.append_assoc, List.length_append]; omega, fun y hy => ?_⟩
                    rcases List.mem_append.1 hy with hy | hy
                    · rcases List.mem_append.1 hy with hy | hy
                      · exact HTR.out y (by simp [hy])
                      · exact runes_of hrr.tgt.2 y hy
                    · exact HTR.out y (List.mem_append_right _ (List.mem_of_mem_drop hy)))
                  clear hwh hk hhere hrr hmu
                  generalize (A ++ r.target ++ (z :: Z').drop r.source.length).take (A.length + r.cursor.toNat) = A' at *
                  generalize (A ++ r.target ++ (z :: Z').drop r.source.length).drop (A.length + r.cursor.toNat) = Z2 at *
                  go_wp2_with fail
                  refine HSR.out.mono ?_
                  rintro e w9 ⟨rfl, hm9, hkq⟩
                  have hb9 := hkq.below
                  have HM9 := Lib.hid hm9
                  have HXY9 := Lib.hid (show Blk w9 w.heap.size 25 #[.slice none 0 0, .int .i64 0, .int .i64 0] ∧ Blk w9 (w.heap.size + 1) 28 #[.int .i64 0, .int .i64 0] ∧ w.grownBy w9 (some g) from ⟨Blk.below HXY8.out.1 hb9 (by omega), Blk.below HXY8.out.2.1 hb9 (by omega), gr_then HXY8.out.2.2 hb9 (by omega)⟩)
                  have hb9x := hb9
                  clear hm9 hb9
                  have HG9 := Lib.hid (Blk.below HG8.out hb9x (by omega))
                  have HO9 := Lib.hid (own_kq HO8.out hkq (by decide) (by decide) (by decide))
                  have HF9 := Lib.hid (show Off lo g W5 w9 from fun k hk hg => (hb9x.block k hk).trans (HF8.out k hk hg))
                  have hs9 := hb9x.size
                  have hM8l := HM8.out.blk.lt
                  have hM8g := HM8.out.ge
                  clear hb9x hkq
                  go_wp2_with fail
                  refine (told_trace _ _ g lo s v0 (shotCells tr) _ HG9.out HO9.out (by omega) (by omega) (by omega)).mono ?_
                  rintro e w10 ⟨rfl, v10, hg10, ho10, htw⟩
                  have HG10 := Lib.hid hg10
                  have HO10 := Lib.hid (show w10.ownsRow lo 93 2 v10 (s + 1) (shotCells (tr ++ [((A.length : Int), (k : Int))])) by rw [shotCells_append]; exact ho10)
                  have HF10 := Lib.hid (show Off lo g W5 w10 from fun k hk hg => (htw.block k (by omega) hg (fun e => by have := (own_lt HO9.out e).1; omega)).trans (HF9.out k hk hg))
                  have HM10 := Lib.hid (HM9.out.two (by omega) HO9.out htw (HR5.out w10 (HF10.out) (Nat.le_trans (by omega) htw.size)) (HH6.out w10 HF10.out (Nat.le_trans (by omega) htw.size)))
                  have HXY10 := Lib.hid (show Blk w10 w.heap.size 25 #[.slice none 0 0, .int .i64 0, .int .i64 0] ∧ Blk w10 (w.heap.size + 1) 28 #[.int .i64 0, .int .i64 0] ∧ w.grownBy w10 (some g) from ⟨blk_two htw HXY9.out.1 (by omega) (own_ne_blk2 HO9.out HXY9.out.1 (by decide)), blk_two htw HXY9.out.2.1 (by omega) (own_ne_blk2 HO9.out HXY9.out.2.1 (by decide)), gr_two HXY9.out.2.2 htw (fun k e => by have := (own_lt HO9.out e).1; omega)⟩)
                  clear hg10 ho10 htw hs9 hM8l hM8g
                  go_wp2_with fail
                  refine ⟨⟨A', Z2, s + 1, p + 1, HM10.out, by omega, by omega, HNR.out.1, HNR.out.2, HGO2.out, HXY10.out, HF10.out, v10, _, HG10.out, HO10.out, by rw [List.length_append, HTL0.out]; rfl, HTR2.out⟩, ?_⟩
                  have e9 : stepsOf M w10 = s + 1 := by
                    unfold stepsOf
                    rw [HM10.out.blk.cell]
                    simp [MCells]
                  rw [HST.out, e9]
                  omega
      · have HP := Lib.hid (HP2.out.trans (if_pos hz))
        go_upto_region 9 with fail
        have hX := HX4.out
        have hY := HY4.out
        have hQ := HQ4.out
        have HB5 := Lib.hid HB4.out
        clear HX4 HY4 HQ4 HH4 HB4
        generalize (w4.alloc (.cells #[.int .i64 f1, .int .i64 f2] 28)) = W3 at *
        have x0 := hX.cell 0
        have x1 := hX.cell 1
        have x2 := hX.cell 2
        have y0 := hY.cell 0
        have y1 := hY.cell 1
        have p0 := hX.frozen 0
        have p1 := hX.frozen 1
        have p2 := hX.frozen 2
        have p3 := hY.frozen 0
        have p4 := hY.frozen 1
        have q0 := hQ.cell 0
        have q1 := hQ.cell 1
        have hne1 : ¬ w.heap.size = w.heap.size + 1 := by omega
        have hne2 : ¬ w.heap.size = w4.heap.size := by omega
        have hne3 : ¬ w.heap.size + 1 = w4.heap.size := by omega
        clear hX hY hQ
        go_region
        all_goals
          go_wp2_with fail
          have hbf := (((((HB5.out.setCell (p := ⟨w.heap.size, 0, none⟩) (by simp) (.slice none 0 0)).setCell (p := ⟨w.heap.size, 1, none⟩) (by simp) (.int .i64 0)).setCell (p := ⟨w.heap.size, 2, none⟩) (by simp) (.int .i64 0)).setCell (p := ⟨w.heap.size + 1, 0, none⟩) (by simp) (.int .i64 f1)).setCell (p := ⟨w.heap.size + 1, 1, none⟩) (by simp) (.int .i64 f2)).drew
          rw [HP.out]
          exact bodyPost_ret (v := .tuple #[.agg #[.slice none 0 0, .int .i64 0, .int .i64 0], .agg #[.int .i64 f1, .int .i64 f2]]) (by simp [results, Try.results38, go_sem, x0, x1, x2, y0, y1]) rfl ⟨⟨none, 0, 0, rfl, ⟨rfl, fun h => absurd h (Nat.lt_irrefl 0)⟩⟩, gr_below g hbf, fun h => absurd h hz⟩
    · have HP := Lib.hid (HP0.out.trans (if_pos hz))
      clear HP0
      have hX := HX3.out
      have hY := HY3.out
      have x0 := hX.cell 0
      have x1 := hX.cell 1
      have x2 := hX.cell 2
      have y0 := hY.cell 0
      have y1 := hY.cell 1
      have p0 := hX.frozen 0
      have p1 := hX.frozen 1
      have p2 := hX.frozen 2
      have p3 := hY.frozen 0
      have p4 := hY.frozen 1
      have hbf := ((((HB3.out.setCell (p := ⟨w.heap.size, 0, none⟩) (by simp) (.slice none 0 0)).setCell (p := ⟨w.heap.size, 1, none⟩) (by simp) (.int .i64 0)).setCell (p := ⟨w.heap.size, 2, none⟩) (by simp) (.int .i64 0)).setCell (p := ⟨w.heap.size + 1, 0, none⟩) (by simp) (.int .i64 tp)).setCell (p := ⟨w.heap.size + 1, 1, none⟩) (by simp) (.int .i64 0)
      have HBF := Lib.hid hbf
      clear hX hY hbf
      go_wp2_with fail
      rw [HP.out]
      exact bodyPost_ret (v := .tuple #[.agg #[.slice none 0 0, .int .i64 0, .int .i64 0], .agg #[.int .i64 tp, .int .i64 0]]) (by simp [results, Try.results38, go_sem, x0, x1, x2, y0, y1]) rfl ⟨⟨none, 0, 0, rfl, ⟨rfl, fun h => absurd h (Nat.lt_irrefl 0)⟩⟩, gr_below g HBF.out, fun h => absurd h hz⟩
  · have HP := Lib.hid (show playP l t = (noOut, (r1, r2)) by unfold playP; rw [hR, if_pos hz])
    clear hR
    go_upto_region 3 with fail
    have HB2 := Lib.hid (HB1.out.alloc HB1.out.size (.cells #[.int .i64 r1, .int .i64 r2] 28))
    have hX := Blk.alloc HX1.out (.cells #[.int .i64 r1, .int .i64 r2] 28)
    have hY := Blk.alloc HY1.out (.cells #[.int .i64 r1, .int .i64 r2] 28)
    have hQ := Blk.new w1 28 #[.int .i64 r1, .int .i64 r2]
    have hxy := HX1.out.lt
    have hyy := HY1.out.lt
    generalize (w1.alloc (.cells #[.int .i64 r1, .int .i64 r2] 28)) = W3 at *
    have x0 := hX.cell 0
    have x1 := hX.cell 1
    have x2 := hX.cell 2
    have y0 := hY.cell 0
    have y1 := hY.cell 1
    have p0 := hX.frozen 0
    have p1 := hX.frozen 1
    have p2 := hX.frozen 2
    have p3 := hY.frozen 0
    have p4 := hY.frozen 1
    have q0 := hQ.cell 0
    have q1 := hQ.cell 1
    have hne1 : ¬ w.heap.size = w.heap.size + 1 := by omega
    have hne2 : ¬ w.heap.size = w1.heap.size := by omega
    have hne3 : ¬ w.heap.size + 1 = w1.heap.size := by omega
    clear hX hY hQ
    go_region
    all_goals
      go_wp2_with fail
      have hbf := (((((HB2.out.setCell (p := ⟨w.heap.size, 0, none⟩) (by simp) (.slice none 0 0)).setCell (p := ⟨w.heap.size, 1, none⟩) (by simp) (.int .i64 0)).setCell (p := ⟨w.heap.size, 2, none⟩) (by simp) (.int .i64 0)).setCell (p := ⟨w.heap.size + 1, 0, none⟩) (by simp) (.int .i64 r1)).setCell (p := ⟨w.heap.size + 1, 1, none⟩) (by simp) (.int .i64 r2)).drew
      rw [HP.out]
      exact bodyPost_ret (v := .tuple #[.agg #[.slice none 0 0, .int .i64 0, .int .i64 0], .agg #[.int .i64 r1, .int .i64 r2]]) (by simp [results, Try.results38, go_sem, x0, x1, x2, y0, y1]) rfl ⟨⟨none, 0, 0, rfl, ⟨rfl, fun h => absurd h (Nat.lt_irrefl 0)⟩⟩, gr_below g hbf, fun h => absurd h hz⟩
      


end Go.Proofs.Ytfmebbnccjaadaa
