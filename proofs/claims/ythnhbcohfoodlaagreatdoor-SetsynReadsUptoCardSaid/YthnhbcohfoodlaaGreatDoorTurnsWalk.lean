/- setsyn.Caught, as a deferred call: what was thrown becomes a fault. -/
import Derived.Test.YthnhbcohfoodlaaGreatDoorCurFail
import Derived.Defers
import Derived.Recover
import Derived.Test.YthnhbcohfoodlaaGreatDoorUtf
import Derived.Test.YthnhbcohfoodlaaGreatDoorKinds
import Derived.Test.YthnhbcohfoodlaaGreatDoorCurSet
import Derived.Test.YthnhbcohfoodlaaGreatDoorTurnsAll
import Derived.Test.YthnhbcohfoodlaaGreatDoorSpan
namespace Go.Proofs.YthnhbcohfoodlaaGreatDoor
open Go.RowKit

theorem assert_oops (W : World) (v : Value) : (Instr.typeAssert (.iface 126 v) 20 126 true).run Tryz.prog W = .ok (.tuple #[v, .bool true]) W := by kernel_rfl
theorem caught_idle (f : Addr) (w : World) :
    CallsD Tryz.prog 35 #[.pointer (some f)] .returning w fun e u' w' => e = .returned (.tuple #[]) ∧ u' = .returning ∧ w' = w := by
  refine callsD_of_wpS Tryz.func35 rfl fun c₀ cs hu => ?_
  apply wpS_seq
  apply wpS_region
  simp [wpOpsS, go_sem, recoverD, hu, Tryz.ntmps35, Exit.thenS]
  refine wpS_of_wp ?_
  go_wp2_with fail
  cases c₀
  simp_all [bodyPostS, results, Tryz.results35]
set_option maxRecDepth 100000 in
set_option maxHeartbeats 1600000 in
theorem caught_thrown (f : Nat) (x p a b : Int) (t : TypeId) (older : List PanicEntry) (w : World) (hf : Blk w f t #[.int .i64 a, .int .i64 b]) :
    CallsD Tryz.prog 35 #[.pointer (some ⟨f, 0, none⟩)] (.panicking ({ v := .iface 126 (.agg #[.int .i64 x, .int .i64 p]), recovered := false } :: older)) w fun e u' w' =>
      e = .returned (.tuple #[]) ∧ u' = .panicking ({ v := .iface 126 (.agg #[.int .i64 x, .int .i64 p]), recovered := true } :: older) ∧ Blk w' f t #[.int .i64 x, .int .i64 p] ∧ But w f w' := by
  have f0 := hf.frozen 0
  have f1 := hf.frozen 1
  have c0 := hf.cell 0
  have c1 := hf.cell 1
  refine callsD_of_wpS Tryz.func35 rfl fun c₀ cs hu => ?_
  apply wpS_seq
  apply wpS_region
  simp [wpOpsS, go_sem, recoverD, hu, Tryz.ntmps35, Exit.thenS]
  refine wpS_of_wp ?_
  have e (V : Value) : (#[Value.pointer (some ⟨f, 0, none⟩)] ++ (Array.replicate 14 undef).setIfInBounds 4 V) = #[.pointer (some ⟨f, 0, none⟩), undef, undef, undef, undef, V, undef, undef, undef, undef, undef, undef, undef, undef, undef] := rfl
  rw [e]
  have hlt := hf.lt
  have hta := fun (W : World) (v : Value) => assert_oops W v
  go_wp2_with fail
  have hB : Blk (((w.setCell ⟨f, 0, none⟩ (.int .i64 x)).setCell ⟨f, 1, none⟩ (.int .i64 p)).alloc (.cells #[.int .i64 x, .int .i64 p] 126)) f t #[.int .i64 x, .int .i64 p] := ((hf.put 0 _).put 1 _).alloc _
  have hS : But w f (((w.setCell ⟨f, 0, none⟩ (.int .i64 x)).setCell ⟨f, 1, none⟩ (.int .i64 p)).alloc (.cells #[.int .i64 x, .int .i64 p] 126)) := ((But.set w f 0 _).trans (But.set _ f 1 _)).trans (But.below f ((Below.refl _ _).alloc (Nat.le_refl _) _))
  simp [bodyPostS, results, Tryz.results35, hB, hS]

end Go.Proofs.YthnhbcohfoodlaaGreatDoor

/- The walk of runes.Decode: the runes of any text in new memory. -/
namespace Go.Proofs.YthnhbcohfoodlaaGreatDoor
open Go.RowKit

def DecPost (w : World) (s : ByteArray) (e : Ending) (w' : World) : Prop :=
  ∃ v, e = .returned v ∧ OwnR w' w.heap.size v (runesOf s 0) ∧ Below w.heap.size w w'
def DecRel (w : World) (s : ByteArray) (v : Value) (wr : World) : Prop :=
  ∃ (p : Nat) (l : List Int), p ≤ s.size ∧ wr.heap[w.heap.size]? = some (.stringIter s p) ∧ OwnR wr (w.heap.size + 1) v l ∧ l ++ runesOf s p = runesOf s 0 ∧ l.length ≤ p ∧ Below w.heap.size w wr

theorem iter_kept {w : World} {base k p : Nat} {e : TypeId} {sz n : Nat} {v v' : Value} {w' : World} {xs : List Value} {s : ByteArray} (hit : w.heap[k]? = some (.stringIter s p)) (hk : k < base)
    (ho : ∃ m ys, w.ownsRow base e sz v m ys) (h : Appended base e sz v w n xs v' w') : w'.heap[k]? = some (.stringIter s p) := by
  obtain ⟨m, ys, ho⟩ := ho
  rw [h.2.1.block k (Array.getElem?_eq_some_iff.1 hit).1 (fun e => by have := (World.ownsRow.lt ho k e.symm).1; omega)]
  exact hit

set_option maxHeartbeats 400000 in
theorem decode_any (s : ByteArray) (w : World) (hs : s.size ≤ 1099511627776) :
    Calls Tryz.prog 36 #[.string s] w (DecPost w s) := by
  obtain ⟨i0, hi, hz0, hz1, hz2⟩ := info_parts Tryz.info21
  go_enter Tryz.func36, Tryz.ntmps36
  go_wp2
  go_loopw [3] (DecRel w s) (fun _ wr => s.size - wr.iterPos w.heap.size)
  case atStart => exact ⟨0, [], Nat.zero_le _, World.iter_heap _ _ _, OwnR.nil _ _, rfl, Nat.le_refl _, (Below.refl _ _).alloc (Nat.le_refl _) _⟩
  case round =>
    obtain ⟨p, l, hp, hit, hown, hl, hll, hbel⟩ := hrel
    have hz := hbel.size
    have hit2 := iterPos_of hit
    by_cases hlt : p < s.size
    · have hnext := fun ty => Lib.run_next_any_at (P := Tryz.prog) wr w.heap.size s p ty hit hlt
      have hd := dec_bound s p hlt
      have hstep := runesOf_step s p hlt
      have hit1 := Lib.iterAt_heap wr w.heap.size s p (p + (Utf8.decode s p).2) hit
      have hb1 := Lib.below_iterAt hbel (Nat.le_refl _) s (p + (Utf8.decode s p).2)
      have hown1 : OwnR (wr.iterAt w.heap.size s (p + (Utf8.decode s p).2)) (w.heap.size + 1) _ l := ownsRow_iterAt hown (Nat.lt_succ_self _) s _
      generalize wr.iterAt w.heap.size s (p + (Utf8.decode s p).2) = W1 at *
      generalize hr : ((Utf8.decode s p).1 : Int) = r at *
      generalize (Utf8.decode s p).2 = k at *
      rw [hstep] at hl
      have hz1' := hb1.size
      obtain ⟨A3, c3, rfl, hc3⟩ := own_form hown1
      have HIT := Lib.hid hit1
      have HIT2 := Lib.hid hit2
      have HL := Lib.hid hl
      have HN := Lib.hid (Rd.new W1 21 1 1 [.int .i32 r] rfl)
      have HO := Lib.hid (World.ownsRow.alloc hown1 (.cells #[.int .i32 r] 21))
      clear hit hit1 hit2 hl hown hown1 hstep hr
      go_wp2_with (at_builtin; refine wpList_append_rd _ rfl (.tmp 11) (.tmp 13) 61 rfl (w.heap.size + 1) 21 i0 _ 1 4 Tryz.underlying61 hi hz0 hz1 hz2 rfl (by decide) _ _ _ rfl HO.out (W1.heap.size + 1) (some ⟨W1.heap.size, 0, none⟩) 1 1 [.int .i32 r] rfl HN.out ?s1 (by simp only [maxLen]; omega) (by omega) (by simp; omega) ?_)
      case s1 => intro u hu; simp at hu; rw [hu]; rfl
      intro v' w2 happ
      have hit3 := iter_kept ((Below.heap_alloc W1 (.cells #[.int .i32 r] 21) w.heap.size (Array.getElem?_eq_some_iff.1 HIT.out).1).trans HIT.out) (Nat.lt_succ_self _) ⟨_, _, HO.out⟩ happ
      have hown2 : OwnR w2 (w.heap.size + 1) v' (l ++ [r]) := OwnR.of happ (by simp) (by simp [runeCells])
      have hb2 : Below w.heap.size w w2 := (hb1.alloc (by omega) _).trans ((happ.below (by simp; omega) HO.out).mono (by omega))
      clear happ
      have hp3 := iterPos_of hit3
      have HI3 := Lib.hid hit3
      clear hit3
      have HP3 := Lib.hid hp3
      clear hp3
      go_wp2
      exact ⟨⟨p + k, l ++ [r], by omega, HI3.out, hown2, by rw [List.append_assoc]; exact HL.out, by simp; omega, hb2⟩, by rw [HP3.out, HIT2.out]; omega⟩
    · have hnext := fun ty => Lib.run_next_end_at (P := Tryz.prog) wr w.heap.size s p ty hit hlt
      rw [runesOf_end s p hlt, List.append_nil] at hl
      subst hl
      clear hit hit2
      go_wp2
      go_ret
      exact ⟨_, rfl, own_mono hown (by omega), hbel⟩

end Go.Proofs.YthnhbcohfoodlaaGreatDoor

/- setsyn.Read: of any text it tells readP of its runes. -/
namespace Go.Proofs.YthnhbcohfoodlaaGreatDoor
open Go.RowKit

theorem read_end (F R : Nat) (x p : Int) (v : Value) (tF tR : TypeId) (u : FrameMode) (w : World) (hF : Blk w F tF #[.int .i64 x, .int .i64 p]) (hR : Blk w R tR #[v]) :
    CallsD Tryz.prog 34 #[.pointer (some ⟨F, 0, none⟩), .pointer (some ⟨R, 0, none⟩)] u w fun e u' w' => u' = u ∧ e = .returned (.tuple #[]) ∧ w' = if x = 0 then w else w.setCell ⟨R, 0, none⟩ (.slice none 0 0) := by
  have f0 := hF.cell 0
  have r0 := hR.frozen 0
  have r1 := hR.cell 0
  clear hF hR
  by_cases hx : x = 0
  · subst hx
    go_enter_d Tryz.func34, Tryz.ntmps34
    go_wp2_with fail
    go_end0
    exact ⟨rfl, rfl⟩
  · have hx2 : (x != 0) = true := by simp; exact hx
    go_enter_d Tryz.func34, Tryz.ntmps34
    go_wp2_with fail
    go_end0
    exact ⟨rfl, rfl⟩

/-- What Read leaves. -/
def ReadPost (w : World) (r : Spans × (Int × Int)) (e : Ending) (w' : World) : Prop :=
  (∃ A n c, e = .returned (.tuple #[.slice A n c, .agg #[.int .i64 r.2.1, .int .i64 r.2.2]]) ∧ RdX w' (fun b => w.heap.size ≤ b) 2 A n (spanCells r.1) ∧ n ≤ c) ∧ Below w.heap.size w w'

/-- The results are stored once more, as they stand. -/
theorem stored_again {w : World} {R F m : Nat} {v : Value} {x p : Int} {tR tF : TypeId} (hR : Blk w R tR #[v]) (hF : Blk w F tF #[.int .i64 x, .int .i64 p]) (hne : R ≠ F) :
    Blk ((((w.drewN m).setCell ⟨R, 0, none⟩ v).setCell ⟨F, 0, none⟩ (.int .i64 x)).setCell ⟨F, 1, none⟩ (.int .i64 p)) R tR #[v] ∧ Blk ((((w.drewN m).setCell ⟨R, 0, none⟩ v).setCell ⟨F, 0, none⟩ (.int .i64 x)).setCell ⟨F, 1, none⟩ (.int .i64 p)) F tF #[.int .i64 x, .int .i64 p] ∧
      ∀ B, B ≤ R → B ≤ F → B ≤ w.heap.size → Below B w ((((w.drewN m).setCell ⟨R, 0, none⟩ v).setCell ⟨F, 0, none⟩ (.int .i64 x)).setCell ⟨F, 1, none⟩ (.int .i64 p)) ∧
        Keeps w (fun b => b ≠ R ∧ b ≠ F) ((((w.drewN m).setCell ⟨R, 0, none⟩ v).setCell ⟨F, 0, none⟩ (.int .i64 x)).setCell ⟨F, 1, none⟩ (.int .i64 p)) (fun b => b ≠ R ∧ b ≠ F) := by
  have h1 : Blk ((w.drewN m).setCell ⟨R, 0, none⟩ v) R tR #[v] := (hR.drewN m).put 0 v
  have b1 := But.set (w.drewN m) R 0 v
  have g1 : Blk ((w.drewN m).setCell ⟨R, 0, none⟩ v) F tF #[.int .i64 x, .int .i64 p] := (b1.2.2.2.2 F (hF.drewN m).lt (Ne.symm hne)).trans (hF.drewN m)
  have b2 := But.set ((w.drewN m).setCell ⟨R, 0, none⟩ v) F 0 (.int .i64 x)
  have g2 : Blk (((w.drewN m).setCell ⟨R, 0, none⟩ v).setCell ⟨F, 0, none⟩ (.int .i64 x)) F tF #[.int .i64 x, .int .i64 p] := g1.put 0 _
  have h2 : Blk (((w.drewN m).setCell ⟨R, 0, none⟩ v).setCell ⟨F, 0, none⟩ (.int .i64 x)) R tR #[v] := (b2.2.2.2.2 R h1.lt hne).trans h1
  have b3 := But.set (((w.drewN m).setCell ⟨R, 0, none⟩ v).setCell ⟨F, 0, none⟩ (.int .i64 x)) F 1 (.int .i64 p)
  refine ⟨(b3.2.2.2.2 R h2.lt hne).trans h2, g2.put 1 _, fun B hR hF hw => ⟨?_, ?_⟩⟩
  · exact ((below_drewN (Below.refl B w) m).trans (b1.to (show B ≤ (w.drewN m).heap.size from hw) hR)).trans ((b2.to (Nat.le_trans hw b1.1) hF).trans (b3.to (Nat.le_trans (Nat.le_trans hw b1.1) b2.1) hF))
  · exact (((Keeps.below (below_drewN (Below.refl _ w) m) (fun b h _ => h)).trans (b1.keeps (X' := fun b => b ≠ R ∧ b ≠ F) (fun b h => h.1) (fun b h _ => h))).trans (b2.keeps (X' := fun b => b ≠ R ∧ b ≠ F) (fun b h => h.2) (fun b h _ => h))).trans (b3.keeps (fun b h => h.2) (fun b h _ => h))
def readDefers (F R : Nat) : List Deferred := [{ target := .fn (.func 35) #[], args := #[.pointer (some ⟨F, 0, none⟩)] }, { target := .fn (.func 34) #[.pointer (some ⟨F, 0, none⟩), .pointer (some ⟨R, 0, none⟩)], args := #[] }]
set_option maxRecDepth 100000 in
theorem read_returns (tmps : Array Value) (F R : Nat) (p : Int) (v : Value) (tF tR : TypeId) (W : World) (Q : Ending → World → Prop) (h2 : tmps[2]? = some (.pointer (some ⟨R, 0, none⟩))) (h3 : tmps[3]? = some (.pointer (some ⟨F, 0, none⟩)))
    (hF : Blk W F tF #[.int .i64 0, .int .i64 p]) (hR : Blk W R tR #[v]) (hQ : Q (.returned (.tuple #[v, .agg #[.int .i64 0, .int .i64 p]])) W) : Leaves Tryz.prog Tryz.f10 tmps Q (readDefers F R) .returning W := by
  have y0 := hR.cell 0
  have y1 := hF.cell 0
  have y2 := hF.cell 1
  refine leaves_cons (f := 35) (args := #[.pointer (some ⟨F, 0, none⟩)]) (by simp) (by simp [go_sem]) ?_
  refine (caught_idle ⟨F, 0, none⟩ W).mono ?_
  rintro e u' w'' ⟨rfl, rfl, rfl⟩
  show Leaves Tryz.prog Tryz.f10 tmps Q _ (settle .returning) w''
  simp only [settle]
  refine leaves_cons (f := 34) (args := #[.pointer (some ⟨F, 0, none⟩), .pointer (some ⟨R, 0, none⟩)]) (by simp) (by simp [go_sem]) ?_
  refine (read_end F R 0 p v tF tR .returning w'' hF hR).mono ?_
  rintro e u' w3 ⟨rfl, rfl, hw⟩
  rw [if_pos rfl] at hw
  subst hw
  refine ⟨_, ?_, hQ⟩
  simp [results, Tryz.results10, go_sem, h2, h3, y0, y1, y2]

set_option maxRecDepth 100000 in
theorem read_thrown (tmps : Array Value) (F R B : Nat) (x p a b : Int) (v : Value) (tF tR : TypeId) (W : World) (Q : Ending → World → Prop) (h2 : tmps[2]? = some (.pointer (some ⟨R, 0, none⟩))) (h3 : tmps[3]? = some (.pointer (some ⟨F, 0, none⟩)))
    (hF : Blk W F tF #[.int .i64 a, .int .i64 b]) (hR : Blk W R tR #[v]) (hne : R ≠ F) (hBF : B ≤ F) (hBR : B ≤ R) (hBW : B ≤ W.heap.size) (hx : x ≠ 0) (hQ : ∀ W2, Below B W W2 → Q (.returned (.tuple #[.slice none 0 0, .agg #[.int .i64 x, .int .i64 p]])) W2) :
    Leaves Tryz.prog Tryz.f10 tmps Q (readDefers F R) (.panicking [{ v := .iface 126 (.agg #[.int .i64 x, .int .i64 p]), recovered := false }]) W := by
  refine leaves_cons (f := 35) (args := #[.pointer (some ⟨F, 0, none⟩)]) (by simp) (by simp [go_sem]) ?_
  refine (caught_thrown F x p a b tF [] W hF).mono ?_
  rintro e u' w'' ⟨rfl, rfl, hB2, hbut⟩
  have hR2 : Blk w'' R tR #[v] := (hbut.2.2.2.2 R hR.lt hne).trans hR
  show Leaves Tryz.prog Tryz.f10 tmps Q _ (settle (.panicking [{ v := .iface 126 (.agg #[.int .i64 x, .int .i64 p]), recovered := true }])) w''
  simp only [settle, List.dropWhile]
  refine leaves_cons (f := 34) (args := #[.pointer (some ⟨F, 0, none⟩), .pointer (some ⟨R, 0, none⟩)]) (by simp) (by simp [go_sem]) ?_
  refine (read_end F R x p v tF tR .returning w'' hB2 hR2).mono ?_
  rintro e u' w3 ⟨rfl, rfl, hw⟩
  rw [if_neg hx] at hw
  subst hw
  have hb3 := But.set w'' R 0 (.slice none 0 0)
  have hF3 : Blk (w''.setCell ⟨R, 0, none⟩ (.slice none 0 0)) F tF #[.int .i64 x, .int .i64 p] := (hb3.2.2.2.2 F hB2.lt (Ne.symm hne)).trans hB2
  have hR3 : Blk (w''.setCell ⟨R, 0, none⟩ (.slice none 0 0)) R tR #[.slice none 0 0] := hR2.put 0 _
  have y0 := hR3.cell 0
  have y1 := hF3.cell 0
  have y2 := hF3.cell 1
  have hQ2 := hQ _ ((hbut.to hBW hBF).trans (hb3.to (Nat.le_trans hBW hbut.1) hBR))
  generalize w''.setCell ⟨R, 0, none⟩ (.slice none 0 0) = w9 at *
  refine ⟨_, ?_, hQ2⟩
  simp [results, Tryz.results10, go_sem, h2, h3, y0, y1, y2]

theorem readP_much {L : List Int} (h : 4000 < L.length) : readP L = ([], (4, 0)) := by unfold readP; rw [if_pos h]
theorem readP_err {L : List Int} {e : Int} {p : Nat} (h : ¬ 4000 < L.length) (h2 : setP' L 20 (skipP L 0) = .error (e, p)) : readP L = ([], (e, (p : Int))) := by unfold readP; rw [if_neg h, h2]
theorem readP_more {L : List Int} {s : Spans} {j : Nat} (h : ¬ 4000 < L.length) (h2 : setP' L 20 (skipP L 0) = .ok (s, j)) (h3 : skipP L j < L.length) : readP L = ([], (2, (skipP L j : Int))) := by unfold readP; rw [if_neg h, h2]; simp only; rw [if_pos h3]
theorem readP_ok {L : List Int} {s : Spans} {j : Nat} (h : ¬ 4000 < L.length) (h2 : setP' L 20 (skipP L 0) = .ok (s, j)) (h3 : ¬ skipP L j < L.length) : readP L = (s, (0, 0)) := by unfold readP; rw [if_neg h, h2]; simp only; rw [if_neg h3]
/-- The faults of a set have a number. -/
def ErrNum {α : Type} (r : Rdg α) : Prop := ∀ e p, r = .error (e, p) → e ≠ 0
theorem needP_num {L : List Int} {i : Nat} {r : Int} {e : Int} {p : Nat} (h : needP L i r = .error (e, p)) : e ≠ 0 := by
  unfold needP at h
  split at h
  · cases h
  · injection h with h; injection h with h1 h2; omega
theorem hexP_num (L : List Int) (i : Nat) : ErrNum (hexP L i) := by
  intro e p h
  unfold hexP at h
  cases h1 : needP L (i + 1) 123 with
  | error x => obtain ⟨x1, x2⟩ := x; rw [h1] at h; simp only at h; injection h with h; injection h with h3 h4; subst h3; exact needP_num h1
  | ok a =>
    rw [h1] at h
    simp only at h
    split at h
    · injection h with h; injection h with h1 h2; omega
    · cases h2 : needP L (runFrom hexB L a) 125 with
      | error x => obtain ⟨x1, x2⟩ := x; rw [h2] at h; simp only at h; injection h with h; injection h with h3 h4; subst h3; exact needP_num h2
      | ok k =>
        rw [h2] at h
        simp only at h
        split at h
        · injection h with h; injection h with h1 h2; omega
        · cases h
theorem charP_num (L : List Int) (i : Nat) : ErrNum (charP L i) := by
  intro e p h
  unfold charP at h
  repeat' (split at h)
  any_goals (cases h; done)
  any_goals (injection h with h; injection h with h1 h2; omega)
  exact hexP_num _ _ _ _ h
theorem spanP_num (L : List Int) (i : Nat) : ErrNum (spanP L i) := by
  intro e p h
  unfold spanP at h
  cases h1 : charP L i with
  | error x => obtain ⟨x1, x2⟩ := x; rw [h1] at h; simp only at h; injection h with h; injection h with h3 h4; subst h3; exact charP_num _ _ _ _ h1
  | ok q =>
    obtain ⟨a, j⟩ := q
    rw [h1] at h
    simp only at h
    split at h
    · cases h2 : charP L (j + 1) with
      | error x => obtain ⟨x1, x2⟩ := x; rw [h2] at h; simp only at h; injection h with h; injection h with h3 h4; subst h3; exact charP_num _ _ _ _ h2
      | ok q =>
        obtain ⟨b, k⟩ := q
        rw [h2] at h
        simp only at h
        split at h
        · injection h with h; injection h with h1 h2; omega
        · cases h
    · cases h
theorem classP_num (L : List Int) (i : Nat) : ErrNum (classP L i) := by
  intro e p h
  unfold classP at h
  split at h
  · injection h with h; injection h with h1 h2; omega
  · split at h
    · rename_i h1; cases h; exact needP_num h1
    · split at h
      · rename_i h1; cases h; exact needP_num h1
      · cases h
theorem partP_num {inner : Nat → Rdg Spans} (hi : ∀ i, ErrNum (inner i)) (L : List Int) (i : Nat) : ErrNum (partP' inner L i) := by
  intro e p h
  unfold partP' at h
  split at h
  · exact classP_num _ _ _ _ h
  · split at h
    · exact hi _ _ _ h
    · split at h
      · exact hi _ _ _ h
      · split at h
        · rename_i h1; cases h; exact spanP_num _ _ _ _ h1
        · cases h
theorem partsP_num {inner : Nat → Rdg Spans} (hi : ∀ i, ErrNum (inner i)) (L : List Int) : ∀ f i s, ErrNum (partsP inner L f i s) := by
  intro f
  induction f with
  | zero => intro i s e p h; unfold partsP at h; injection h with h; injection h with h1 h2; omega
  | succ f ih =>
    intro i s e p h
    rw [partsP] at h
    split at h
    · cases h
    · split at h
      · rename_i h1; cases h; exact partP_num hi _ _ _ _ h1
      · split at h
        · rename_i h1; injection h with h; injection h with h2 h3; subst h2; exact h1
        · exact ih _ _ _ _ h
theorem setP_num (L : List Int) : ∀ n i, ErrNum (setP' L n i) := by
  intro n
  induction n with
  | zero => intro i e p h; unfold setP' at h; injection h with h; injection h with h1 h2; split at h1 <;> omega
  | succ n ih =>
    intro i e p h
    rw [setP'] at h
    split at h
    · rename_i h1; cases h; exact needP_num h1
    · split at h
      · rename_i h1; cases h; exact partsP_num ih _ _ _ _ _ _ h1
      · split at h
        · split at h
          · rename_i h1; injection h with h; injection h with h2 h3; subst h2; exact h1
          · cases h
        · cases h


set_option maxHeartbeats 6400000 in
set_option maxRecDepth 100000 in
theorem syn_read (s : ByteArray) (w : World) (hs : s.size ≤ 1099511627776) :
    Calls Tryz.prog 10 #[.string s] w (ReadPost w (readP (runesOf s 0))) := by
  have hmf : ∀ (fn : Fn) (first cap : Array Value) (w : World), (Instr.makeFunc fn first cap).run Tryz.prog w = .ok (.func fn first cap) w := fun _ _ _ _ => rfl
  have HD := Lib.hid (fun (W : World) => show Calls Tryz.prog 36 #[.string s] W fun e w' => ∃ v, e = .returned v ∧ OwnR w' W.heap.size v (runesOf s 0) ∧ Below W.heap.size W w' from decode_any s W hs)
  have HV := Lib.hid (show ValidL (runesOf s 0) from runesOf_valid s)
  have hLs : (runesOf s 0).length ≤ s.size := by
    unfold runesOf
    rw [List.length_map]
    have := spots_length s s.size 0 (by omega)
    omega
  generalize runesOf s 0 = L at *
  have HB0 := Lib.hid (show Below w.heap.size w ((w.alloc (.cells #[.slice none 0 0] 22)).alloc (.cells #[.int .i64 0, .int .i64 0] 25)) from ((Below.refl _ _).alloc (Nat.le_refl _) _).alloc (by simp) _)
  have HR0 := Lib.hid (show Blk ((w.alloc (.cells #[.slice none 0 0] 22)).alloc (.cells #[.int .i64 0, .int .i64 0] 25)) w.heap.size 22 #[.slice none 0 0] from (Blk.new w _ _).alloc _)
  have HF0 := Lib.hid (show Blk ((w.alloc (.cells #[.slice none 0 0] 22)).alloc (.cells #[.int .i64 0, .int .i64 0] 25)) (w.heap.size + 1) 25 #[.int .i64 0, .int .i64 0] from by
    have := Blk.new (w.alloc (.cells #[.slice none 0 0] 22)) 25 #[.int .i64 0, .int .i64 0]
    simpa using this)
  have HZ0 := Lib.hid (show w.heap.size + 2 ≤ ((w.alloc (.cells #[.slice none 0 0] 22)).alloc (.cells #[.int .i64 0, .int .i64 0] 25)).heap.size by simp)
  go_enter_defers Tryz.func10, Tryz.ntmps10
  go_wp2_with fail
  refine (HD.out _).mono ?_
  rintro e w1 ⟨v, rfl, ho, hb⟩
  have HB1 := Lib.hid (HB0.out.trans (hb.mono HB0.out.size))
  have HR1 := Lib.hid (HR0.out.below hb HR0.out.lt)
  have HF1 := Lib.hid (HF0.out.below hb HF0.out.lt)
  have HZ1 := Lib.hid (Nat.le_trans HZ0.out hb.size)
  obtain ⟨n, hn⟩ : ∃ n, L.length = n := ⟨_, rfl⟩
  unfold OwnR at ho
  rw [hn] at ho
  have hn62 : n ≤ 4611686018427387904 := by omega
  obtain ⟨A, c, rfl, hnc⟩ := own_form ho
  have HC2 := Lib.hid (show CurAt (w1.alloc (.cells #[.slice A n c, .int .i64 0] 64)) w1.heap.size A n c L 0 from
    ⟨⟨_, Blk.new _ _ _⟩, (RdX.of_own (X := fun b => b < w1.heap.size) ho (fun b hb => (own_lt ho hb).2)).keep (Keeps.alloc _ (fun b hb _ => Nat.ne_of_lt hb)), hn62, Nat.zero_le _, hnc⟩)
  have HR2 := Lib.hid (HR1.out.alloc (.cells #[.slice A n c, .int .i64 0] 64))
  have HF2 := Lib.hid (HF1.out.alloc (.cells #[.slice A n c, .int .i64 0] 64))
  have HB2 := Lib.hid (HB1.out.alloc HB1.out.size (.cells #[.slice A n c, .int .i64 0] 64))
  have HLN := Lib.hid hn
  clear ho hb HD HR0 HF0 HB0 HZ0
  have c0 := HC2.out.blk.cell 0
  by_cases hmuch : 4000 < n
  · have HRES := Lib.hid (readP_much (L := L) (by rw [hn]; exact hmuch))
    have HFL := Lib.hid (fun (W : World) => syn_fail 4 0 W)
    clear hn
    go_wp2_with fail
    refine (HFL.out _).mono ?_
    rintro e w3 ⟨rfl, rfl⟩
    go_wp2_with fail
    refine read_thrown _ (w.heap.size + 1) w.heap.size w.heap.size 4 0 0 0 _ _ _ _ _ rfl rfl HF2.out HR2.out (by omega) (by omega) (Nat.le_refl _) HB2.out.size (by decide) (fun W2 hb2 => ?_)
    rw [HRES.out]
    exact ⟨⟨none, 0, 0, rfl, ⟨rfl, fun h => absurd h (by omega)⟩, Nat.le_refl _⟩, HB2.out.trans hb2⟩
  · have hmu := fun h => hmuch (by rw [← hn]; exact h)
    have HMU := Lib.hid hmu
    clear hmu hn
    go_wp2_with fail
    refine (cur_skip _ _ A n c L 0 HC2.out).mono ?_
    rintro e w3 ⟨rfl, hc3, hb3⟩
    have HC3 := Lib.hid hc3
    have HR3 := Lib.hid ((hb3.2.2.2.2 w.heap.size HR2.out.lt (by have := HZ1.out; omega)).trans HR2.out)
    have HF3 := Lib.hid ((hb3.2.2.2.2 (w.heap.size + 1) HF2.out.lt (by have := HZ1.out; omega)).trans HF2.out)
    have HB3 := Lib.hid (HB2.out.trans (hb3.to HB2.out.size (by have := HZ1.out; omega)))
    clear hc3 hb3 c0
    have HST := Lib.hid (show Calls Tryz.prog 39 #[.pointer (some ⟨w1.heap.size, 0, none⟩), .int .i64 1] w3 (SetPost w3 w1.heap.size A n c L (setP' L 20 (skipP L 0))) from cur_set 20 1 w3 w1.heap.size A n c L (skipP L 0) rfl (by decide) HC3.out HV.out (by omega))
    cases hset : setP' L 20 (skipP L 0) with
    | error e0 =>
      obtain ⟨x, p⟩ := e0
      have hx : x ≠ 0 := setP_num L 20 _ x p hset
      have HRES := Lib.hid (readP_err HMU.out hset)
      rw [hset] at HST
      clear hset
      go_wp2_with fail
      refine HST.out.mono ?_
      rintro e w4 ⟨he, hb4⟩
      unfold thrown at he
      subst he
      have HR4 := Lib.hid ((hb4.2.2.2.2 w.heap.size (show Blk w3 w.heap.size 22 #[.slice none 0 0] from HR3.out).lt (by have := HZ1.out; omega)).trans HR3.out)
      have HF4 := Lib.hid ((hb4.2.2.2.2 (w.heap.size + 1) (show Blk w3 (w.heap.size + 1) 25 #[.int .i64 0, .int .i64 0] from HF3.out).lt (by have := HZ1.out; omega)).trans HF3.out)
      have HB4 := Lib.hid (HB3.out.trans (hb4.to HB3.out.size (by have := HZ1.out; omega)))
      clear hb4
      go_wp2_with fail
      refine read_thrown _ (w.heap.size + 1) w.heap.size w.heap.size x p 0 0 _ _ _ _ _ rfl rfl HF4.out HR4.out (by omega) (by omega) (Nat.le_refl _) HB4.out.size hx (fun W2 hb2 => ?_)
      rw [HRES.out]
      exact ⟨⟨none, 0, 0, rfl, ⟨rfl, fun h => absurd h (by omega)⟩, Nat.le_refl _⟩, HB4.out.trans hb2⟩
    | ok q =>
      obtain ⟨t, j⟩ := q
      have HSE := Lib.hid hset
      rw [hset] at HST
      clear hset
      have hr3 : Blk w3 w.heap.size 22 #[.slice none 0 0] := HR3.out
      have hf3 : Blk w3 (w.heap.size + 1) 25 #[.int .i64 0, .int .i64 0] := HF3.out
      go_wp2_with fail
      refine HST.out.mono ?_
      rintro e w4 ⟨⟨B4, m4, d4, rfl, hrd, hmd⟩, hc4, hb4⟩
      have HC4 := Lib.hid hc4
      have hR4 : Blk w4 w.heap.size 22 #[.slice none 0 0] := (hb4.2.2.2.2 w.heap.size hr3.lt (by have := HZ1.out; omega)).trans HR3.out
      have hF4 : Blk w4 (w.heap.size + 1) 25 #[.int .i64 0, .int .i64 0] := (hb4.2.2.2.2 (w.heap.size + 1) hf3.lt (by have := HZ1.out; omega)).trans HF3.out
      have HB4 := Lib.hid (HB3.out.trans (hb4.to HB3.out.size (by have := HZ1.out; omega)))
      have r4 := hR4.cell 0
      have z4 := hR4.frozen 0
      have hb5 := But.set w4 w.heap.size 0 (.slice B4 m4 d4)
      have HC5 := Lib.hid (HC4.out.set hR4 (fun x e => by cases e) (by have := HZ1.out; omega) (.slice B4 m4 d4))
      have HR5 := Lib.hid (blk_set1 hR4 (.slice B4 m4 d4))
      have HF5 := Lib.hid (show Blk (w4.setCell ⟨w.heap.size, 0, none⟩ (.slice B4 m4 d4)) (w.heap.size + 1) 25 #[.int .i64 0, .int .i64 0] from (hb5.2.2.2.2 (w.heap.size + 1) hF4.lt (by omega)).trans hF4)
      have HB5 := Lib.hid (HB4.out.trans (hb5.to HB4.out.size (Nat.le_refl _)))
      have h3lt := hf3.lt
      have HRD5 := Lib.hid (hrd.keep (hb5.keeps (X := fun b => w3.heap.size ≤ b) (X' := fun b => w.heap.size ≤ b ∧ b ≠ w1.heap.size ∧ b ≠ w.heap.size ∧ b ≠ w.heap.size + 1) (fun b hb => by have : w3.heap.size ≤ b := hb; omega) (fun b hb _ => by have : w3.heap.size ≤ b := hb; have := HC3.out.blk.lt; omega)))
      clear hrd hc4 hb4 hb5 hr3 hf3 hF4 hR4
      go_wp2_with fail
      refine (cur_skip _ _ A n c L j HC5.out).mono ?_
      rintro e w6 ⟨rfl, hc6, hb6⟩
      have HC6 := Lib.hid hc6
      have hR6 : Blk w6 w.heap.size 22 #[.slice B4 m4 d4] := (hb6.2.2.2.2 w.heap.size (show Blk _ w.heap.size 22 #[.slice B4 m4 d4] from HR5.out).lt (by have := HZ1.out; omega)).trans HR5.out
      have hF6 : Blk w6 (w.heap.size + 1) 25 #[.int .i64 0, .int .i64 0] := (hb6.2.2.2.2 (w.heap.size + 1) HF5.out.lt (by have := HZ1.out; omega)).trans HF5.out
      have HR6 := Lib.hid hR6
      have HF6 := Lib.hid hF6
      have HB6 := Lib.hid (HB5.out.trans (hb6.to HB5.out.size (by have := HZ1.out; omega)))
      have HRD6 := Lib.hid (HRD5.out.keep (hb6.keeps (X' := fun b => w.heap.size ≤ b ∧ b ≠ w1.heap.size ∧ b ≠ w.heap.size ∧ b ≠ w.heap.size + 1) (fun b h => h.2.1) (fun b h _ => h)))
      clear hb6 hc6 hR6 hF6
      have d0 := HC6.out.blk.cell 0
      have d1 := HC6.out.blk.cell 1
      by_cases hmore : skipP L j < n
      · have HRES := Lib.hid (readP_more HMU.out HSE.out (by rw [HLN.out]; exact hmore))
        have hq : decide (((skipP L j : Nat) : Int) < (n : Int)) = true := decide_eq_true (by omega)
        generalize skipP L j = k at *
        have HFL := Lib.hid (fun (W : World) => syn_fail 2 k W)
        go_wp2_with fail
        go_quiet (fail)
        go_wp2_with fail
        refine (HFL.out _).mono ?_
        rintro e w7 ⟨rfl, rfl⟩
        go_wp2_with fail
        refine read_thrown _ (w.heap.size + 1) w.heap.size w.heap.size 2 k 0 0 _ _ _ _ _ rfl rfl HF6.out HR6.out (by omega) (by omega) (Nat.le_refl _) HB6.out.size (by decide) (fun W2 hb2 => ?_)
        rw [HRES.out]
        exact ⟨⟨none, 0, 0, rfl, ⟨rfl, fun h => absurd h (by omega)⟩, Nat.le_refl _⟩, (below_drewN HB6.out _).trans hb2⟩
      · have HRES := Lib.hid (readP_ok HMU.out HSE.out (by rw [HLN.out]; exact hmore))
        have hq : decide (((skipP L j : Nat) : Int) < (n : Int)) = false := decide_eq_false (by omega)
        generalize skipP L j = k at *
        have r6 := HR6.out.cell 0
        have s6 := HR6.out.frozen 0
        have r7 := HF6.out.cell 0
        have s7 := HF6.out.frozen 0
        have r8 := HF6.out.cell 1
        have s8 := HF6.out.frozen 1
        go_wp2_with fail
        go_quiet (fail)
        go_wp2_with fail
        go_region
        obtain ⟨h9R, h9F, h9B⟩ := stored_again (m := nq + 1) HR6.out HF6.out (show w.heap.size ≠ w.heap.size + 1 by omega)
        obtain ⟨h9b, h9k⟩ := h9B w.heap.size (Nat.le_refl _) (by omega) HB6.out.size
        have HRR := Lib.hid h9R
        have HFF := Lib.hid h9F
        have HBB := Lib.hid (HB6.out.trans h9b)
        have HRD := Lib.hid (((HRD6.out.lift (X' := fun b => (w.heap.size ≤ b ∧ b ≠ w1.heap.size) ∧ (b ≠ w.heap.size ∧ b ≠ w.heap.size + 1)) (fun b h => ⟨⟨h.1, h.2.1⟩, h.2.2⟩)).lift (X' := fun b => b ≠ w.heap.size ∧ b ≠ w.heap.size + 1) (fun b h => h.2)))
        have HRDlo := Lib.hid (show RdX w6 (fun b => w.heap.size ≤ b ∧ (b ≠ w.heap.size ∧ b ≠ w.heap.size + 1)) 2 B4 m4 (spanCells t) from HRD6.out.lift (fun b h => ⟨h.1, h.2.2⟩))
        have HKK := Lib.hid (show Keeps w6 (fun b => w.heap.size ≤ b ∧ (b ≠ w.heap.size ∧ b ≠ w.heap.size + 1)) _ (fun b => w.heap.size ≤ b) from fun b hb hl => let ⟨e, _, h2⟩ := h9k b hb.2 hl; ⟨e, hb.1, h2⟩)
        have HRD9 := Lib.hid (HRDlo.out.keep HKK.out)
        clear h9R h9F h9B h9b h9k r6 s6 r7 s7 r8 s8 HRD HKK HRDlo
        generalize (((w6.drewN (nq + 1)).setCell { block := w.heap.size, off := 0 } (Value.slice B4 m4 d4)).setCell { block := w.heap.size + 1, off := 0 } (Value.int IntKind.i64 0)).setCell { block := w.heap.size + 1, off := 1 } (Value.int IntKind.i64 0) = w9 at *
        go_wp2_with fail
        refine read_returns _ (w.heap.size + 1) w.heap.size 0 (.slice B4 m4 d4) _ _ w9 _ rfl rfl HFF.out HRR.out ?_
        rw [HRES.out]
        exact ⟨⟨B4, m4, d4, rfl, HRD9.out, hmd⟩, HBB.out⟩

end Go.Proofs.YthnhbcohfoodlaaGreatDoor

/- SetSame: scriptref2.Same at two sets that read as the same spans: true. -/
namespace Go.Proofs.YthnhbcohfoodlaaGreatDoor
open Go.RowKit

set_option maxHeartbeats 800000 in
theorem set_same (A C : Option Addr) (n m c d : Nat) (s : Spans) (w : World) (B B' : Nat) (hn : n ≤ 9223372036854775807) (hx : RdS w B A n s) (hy : RdS w B' C m s) :
    Calls Tryz.prog 12 #[.slice A n c, .slice C m d] w fun e w' => e = .returned (.bool true) ∧ ∃ k, w' = w.drewN k := by
  obtain rfl : n = m := by rw [← hx.len, ← hy.len]
  have HX := Lib.hid hx
  have HY := Lib.hid hy
  have HL := Lib.hid hx.len
  clear hx hy
  go_enter Tryz.func12, Tryz.ntmps12
  go_wp2
  go_loopw [13] (fun i wr => ∃ k q : Nat, k ≤ n ∧ i = .int .i64 k ∧ wr = w.drewN q) (fun i _ => n - (intOf i).toNat)
  case atStart => exact ⟨0, 0, Nat.zero_le _, rfl, rfl⟩
  case round =>
    obtain ⟨k, q, hk, rfl, rfl⟩ := hrel
    by_cases hlt : k < n
    · obtain ⟨⟨x, y⟩, hz⟩ : ∃ z, s[k]? = some z := ⟨_, List.getElem?_eq_getElem (by rw [HL.out]; exact hlt)⟩
      obtain ⟨b1, o1, rfl, hb1, c0, c1⟩ := HX.out.at hz
      obtain ⟨b2, o2, rfl, hb2, d0, d1⟩ := HY.out.at hz
      clear hz
      go_wp2
      go_quiet (fail)
      go_wp2
      refine ⟨⟨k + 1, _, by omega, by go_num, rfl⟩, by simp [intOf]; omega⟩
    · obtain rfl : k = n := by omega
      go_wp2
      go_ret
      exact ⟨rfl, _, rfl⟩

end Go.Proofs.YthnhbcohfoodlaaGreatDoor

/- The walk of scriptlaw3.SetsynTurns: what is written is read. -/
namespace Go.Proofs.YthnhbcohfoodlaaGreatDoor
open Go.RowKit

set_option maxHeartbeats 3200000 in
set_option maxRecDepth 100000 in
theorem turns_back (A : Option Addr) (n c : Nat) (l : Spans) (w : World) (hl : RdS w w.heap.size A n l) (hr : RightSet l) (hd : w.cell? ⟨5, 15, none⟩ = some (.int .u8 4)) (hlt : 5 < w.heap.size) :
    Calls Tryz.prog 14 #[.slice A n c] w fun e w' => e = .returned (.bool true) ∧ Below w.heap.size w w' := by
  have HLEN := Lib.hid hl.len
  have hn2 : n ≤ 200 := by rw [← hl.len]; exact hr.size
  have HL := Lib.hid hl
  have HR := Lib.hid hr
  have HP := Lib.hid (setsyn_print A n c l w (by omega) hl hd hlt)
  have HSZ := Lib.hid (printP_size hr)
  have HOK := Lib.hid (printP_ok hr)
  have HRD := Lib.hid (fun h : l.length ≤ 150 => read_print l hr h)
  generalize (printP l).2 = oe at *
  generalize (printP l).1 = txt at *
  clear hl hr hd hlt
  go_enter Tryz.func14, Tryz.ntmps14
  go_wp2_with fail
  refine HP.out.mono ?_
  rintro e w1 ⟨rfl, hb1⟩
  have HB1 := Lib.hid hb1
  have HSR := Lib.hid (fun W => syn_read txt W (by have := HSZ.out; omega))
  generalize readP (runesOf txt 0) = R at *
  clear hb1
  go_wp2_with fail
  refine (HSR.out _).mono ?_
  rintro e w2 ⟨⟨A2, n2, c2, rfl, hx, _⟩, hb2⟩
  obtain ⟨u, f1, f2⟩ := R
  have HB2 := Lib.hid (HB1.out.trans (hb2.mono HB1.out.size))
  have HX := Lib.hid (hx.rd (B := w2.heap.size) (fun _ _ h => h))
  have HF := Lib.hid (Blk.new w2 25 #[.int .i64 f1, .int .i64 f2])
  have HB3 := Lib.hid (HB2.out.alloc HB2.out.size (.cells #[.int .i64 f1, .int .i64 f2] 25))
  clear hb2 hx
  by_cases h150 : n ≤ 150
  · have hR := HRD.out (by rw [HLEN.out]; exact h150)
    simp only [Prod.mk.injEq] at hR
    obtain ⟨rfl, rfl, rfl⟩ := hR
    obtain rfl := HOK.out
    have hz : ¬ (150 : Int) < (n : Int) := by omega
    have x0 := HF.out.cell 0
    have z0 := HF.out.frozen 0
    have HS := Lib.hid (set_same A A2 n n2 c c2 u (w2.alloc (.cells #[.int .i64 0, .int .i64 0] 25)) w.heap.size w2.heap.size (by omega) (HL.out.below HB3.out) (HX.out.below ((Below.refl _ _).alloc (Nat.le_refl _) _)))
    go_wp2_with fail
    refine HS.out.mono ?_
    rintro e w4 ⟨rfl, k, rfl⟩
    go_wp2_with fail
    go_ret
    exact ⟨rfl, below_drewN HB3.out _⟩
  · have hz : (150 : Int) < (n : Int) := by omega
    go_wp2_with fail
    go_ret
    exact ⟨rfl, HB3.out⟩

theorem text_one : readP (runesOf { data := #[91, 97, 45, 99, 32, 101, 93] } 0) = ([(97, 99), (101, 101)], (0, 0)) := by
  rw [show runesOf { data := #[91, 97, 45, 99, 32, 101, 93] } 0 = [91, 97, 45, 99, 32, 101, 93] by decide +kernel]
  exact readP_one

set_option maxHeartbeats 3200000 in
set_option maxRecDepth 100000 in
theorem law_alive (w : World) : Calls Tryz.prog 13 #[] w fun e w' => e = .returned (.bool true) ∧ Below w.heap.size w w' := by
  have HSR := Lib.hid (syn_read { data := #[91, 97, 45, 99, 32, 101, 93] } w (by decide))
  rw [text_one] at HSR
  go_enter Tryz.func13, Tryz.ntmps13
  go_wp2_with fail
  refine HSR.out.mono ?_
  rintro e w2 ⟨⟨A2, n2, c2, rfl, hx, _⟩, hb2⟩
  have hx2 : RdS w2 w2.heap.size A2 n2 [(97, 99), (101, 101)] := hx.rd (B := w2.heap.size) (fun _ _ h => h)
  have hn := hx2.len
  simp only [List.length_cons, List.length_nil] at hn
  subst hn
  obtain ⟨b, off, rfl, hbb, c0, c1⟩ := hx2.at (k := 0) (x := 97) (y := 99) rfl
  obtain ⟨b', off', he, _, c2, c3⟩ := hx2.at (k := 1) (x := 101) (y := 101) rfl
  cases he
  have HB2 := Lib.hid (hb2.alloc hb2.size (.cells #[.int .i64 0, .int .i64 0] 25))
  have hbe : Below w2.heap.size w2 (w2.alloc (.cells #[.int .i64 0, .int .i64 0] 25)) := (Below.refl _ _).alloc (Nat.le_refl _) _
  have HF := Lib.hid (Blk.new w2 25 #[.int .i64 0, .int .i64 0])
  have x0 := HF.out.cell 0
  have z0 := HF.out.frozen 0
  have d0 := (hbe.cell (p := ⟨b, off + 0 * 2, none⟩) hbb).trans c0
  have d1 := (hbe.cell (p := ⟨b, off + 0 * 2 + 1, none⟩) hbb).trans c1
  have d2 := (hbe.cell (p := ⟨b, off + 1 * 2, none⟩) hbb).trans c2
  have d3 := (hbe.cell (p := ⟨b, off + 1 * 2 + 1, none⟩) hbb).trans c3
  simp only [Nat.zero_mul, Nat.add_zero, Nat.one_mul] at d0 d1 d2 d3
  clear c0 c1 c2 c3 hbe hb2 hx hx2 HSR
  go_wp2_with fail
  go_ret
  exact ⟨rfl, HB2.out⟩

theorem lt_of_cell {w : World} {p : Addr} {v : Value} (h : w.cell? p = some v) : p.block < w.heap.size := by
  rcases Nat.lt_or_ge p.block w.heap.size with h' | h'
  · exact h'
  · simp [World.cell?, Array.getElem?_eq_none h'] at h

set_option maxHeartbeats 3200000 in
set_option maxRecDepth 100000 in
theorem setsyn_turns (A : Option Addr) (n c : Nat) (l : Spans) (s : ByteArray) (w : World) (hn : n ≤ 9223372036854775807) (hs : s.size ≤ 1099511627776) (hl : RdS w w.heap.size A n l) (hd : w.cell? ⟨5, 15, none⟩ = some (.int .u8 4)) (hlt : 5 < w.heap.size) :
    Calls Tryz.prog 4 #[.slice A n c, .string s] w fun e w' => e = .returned (.bool true) ∧ Below w.heap.size w w' := by
  have hr := readP_right (ValidL.ok (runesOf_valid s))
  have HRR := Lib.hid hr
  have HSR := Lib.hid (fun W => syn_read s W hs)
  generalize readP (runesOf s 0) = R at *
  obtain ⟨u, f1, f2⟩ := R
  dsimp only at HRR hr
  have HL := Lib.hid hl
  have HD := Lib.hid hd
  have HLT := Lib.hid hlt
  clear hl hd hr hlt
  go_enter Tryz.func4, Tryz.ntmps4
  go_wp2_with fail
  refine (law_alive _).mono ?_
  rintro e w1 ⟨rfl, hb1⟩
  have HB1 := Lib.hid hb1
  have HW := Lib.hid (sets_wrong A n c l w1 hn ((HL.out.below hb1).more hb1.size))
  clear hb1
  go_wp2_with fail
  refine HW.out.mono ?_
  rintro e w2 ⟨rfl, hb2⟩
  have HB2 := Lib.hid (HB1.out.trans (hb2.mono HB1.out.size))
  clear hb2
  by_cases hw0 : wrongP l = 0
  · have HBK := Lib.hid (turns_back A n c l w2 ((HL.out.below HB2.out).more HB2.out.size) (right_set hw0) ((HB2.out.cell (p := ⟨5, 15, none⟩) HLT.out).trans HD.out) (Nat.lt_of_lt_of_le HLT.out HB2.out.size))
    have q1 : (wrongP l == 0) = true := by simpa using hw0
    go_wp2_with fail
    refine HBK.out.mono ?_
    rintro e w3 ⟨rfl, hb3⟩
    have HB3 := Lib.hid (HB2.out.trans (hb3.mono HB2.out.size))
    clear hb3
    go_wp2_with fail
    refine (HSR.out _).mono ?_
    rintro e w4 ⟨⟨A2, n2, c2, rfl, hx, _⟩, hb4⟩
    have HB4 := Lib.hid (HB3.out.trans (hb4.mono HB3.out.size))
    have hx2 : RdS w4 w4.heap.size A2 n2 u := hx.rd (B := w4.heap.size) (fun _ _ h => h)
    have hn2 : n2 ≤ 200 := by rw [← hx2.len]; exact HRR.out.size
    have HF := Lib.hid (Blk.new w4 25 #[.int .i64 f1, .int .i64 f2])
    have HB5 := Lib.hid (HB4.out.alloc HB4.out.size (.cells #[.int .i64 f1, .int .i64 f2] 25))
    have HX := Lib.hid ((hx2.below ((Below.refl _ _).alloc (Nat.le_refl _) (.cells #[.int .i64 f1, .int .i64 f2] 25))).more (show w4.heap.size ≤ (w4.alloc (.cells #[.int .i64 f1, .int .i64 f2] 25)).heap.size by simp))
    have x0 := HF.out.cell 0
    have z0 := HF.out.frozen 0
    have HW5 := Lib.hid (sets_wrong A2 n2 c2 u _ (by omega) HX.out)
    clear hx hb4
    by_cases hf : f1 = 0
    · subst hf
      go_wp2_with fail
      refine HW5.out.mono ?_
      rintro e w6 ⟨rfl, hb6⟩
      have HB6 := Lib.hid (HB5.out.trans (hb6.mono HB5.out.size))
      have HBK5 := Lib.hid (turns_back A2 n2 c2 u w6 ((HX.out.below hb6).more hb6.size) HRR.out ((HB6.out.cell (p := ⟨5, 15, none⟩) HLT.out).trans HD.out) (Nat.lt_of_lt_of_le HLT.out HB6.out.size))
      have q5 : (wrongP u == 0) = true := by simpa using wrong_of HRR.out
      clear hb6 x0 z0
      go_wp2_with fail
      refine HBK5.out.mono ?_
      rintro e w7 ⟨rfl, hb7⟩
      have HB7 := Lib.hid (HB6.out.trans (hb7.mono HB6.out.size))
      clear hb7
      go_wp2_with fail
      go_ret
      exact ⟨rfl, HB7.out⟩
    · have q6 : (f1 != 0) = true := by simpa using hf
      have q7 : (f1 == 0) = false := by simpa using hf
      go_wp2_with fail
      go_ret
      exact ⟨rfl, HB5.out⟩
  · have q1 : (wrongP l == 0) = false := by simpa using hw0
    go_wp2_with fail
    refine (HSR.out _).mono ?_
    rintro e w4 ⟨⟨A2, n2, c2, rfl, hx, _⟩, hb4⟩
    have HB4 := Lib.hid (HB2.out.trans (hb4.mono HB2.out.size))
    have hx2 : RdS w4 w4.heap.size A2 n2 u := hx.rd (B := w4.heap.size) (fun _ _ h => h)
    have hn2 : n2 ≤ 200 := by rw [← hx2.len]; exact HRR.out.size
    have HF := Lib.hid (Blk.new w4 25 #[.int .i64 f1, .int .i64 f2])
    have HB5 := Lib.hid (HB4.out.alloc HB4.out.size (.cells #[.int .i64 f1, .int .i64 f2] 25))
    have HX := Lib.hid ((hx2.below ((Below.refl _ _).alloc (Nat.le_refl _) (.cells #[.int .i64 f1, .int .i64 f2] 25))).more (show w4.heap.size ≤ (w4.alloc (.cells #[.int .i64 f1, .int .i64 f2] 25)).heap.size by simp))
    have x0 := HF.out.cell 0
    have z0 := HF.out.frozen 0
    have HW5 := Lib.hid (sets_wrong A2 n2 c2 u _ (by omega) HX.out)
    clear hx hb4
    by_cases hf : f1 = 0
    · subst hf
      go_wp2_with fail
      refine HW5.out.mono ?_
      rintro e w6 ⟨rfl, hb6⟩
      have HB6 := Lib.hid (HB5.out.trans (hb6.mono HB5.out.size))
      have HBK5 := Lib.hid (turns_back A2 n2 c2 u w6 ((HX.out.below hb6).more hb6.size) HRR.out ((HB6.out.cell (p := ⟨5, 15, none⟩) HLT.out).trans HD.out) (Nat.lt_of_lt_of_le HLT.out HB6.out.size))
      have q5 : (wrongP u == 0) = true := by simpa using wrong_of HRR.out
      clear hb6 x0 z0
      go_wp2_with fail
      refine HBK5.out.mono ?_
      rintro e w7 ⟨rfl, hb7⟩
      have HB7 := Lib.hid (HB6.out.trans (hb7.mono HB6.out.size))
      clear hb7
      go_wp2_with fail
      go_ret
      exact ⟨rfl, HB7.out⟩
    · have q6 : (f1 != 0) = true := by simpa using hf
      have q7 : (f1 == 0) = false := by simpa using hf
      go_wp2_with fail
      go_ret
      exact ⟨rfl, HB5.out⟩

end Go.Proofs.YthnhbcohfoodlaaGreatDoor
