/- RdFileFr -/
import Derived.Test.YthnhbcohfoodlaaGreatDoorZk46
import Derived.Test.YthnhbcohfoodlaaGreatDoorZk43
import Derived.Test.YthnhbcohfoodlaaGreatDoorZk3
namespace Go.Proofs.YthnhbcohfoodlaaGreatDoor
open Go.RowKit
theorem rules_end (F R : Nat) (x p : Int) (v : Value) (tF tR : TypeId) (u : FrameMode) (w : World) (hF : Blk w F tF #[.int .i64 x, .int .i64 p]) (hR : Blk w R tR #[v]) :
    CallsD Tryz.prog 55 #[.pointer (some ⟨F, 0, none⟩), .pointer (some ⟨R, 0, none⟩)] u w fun e u' w' => u' = u ∧ e = .returned (.tuple #[]) ∧ w' = if x = 0 then w else w.setCell ⟨R, 0, none⟩ (.slice none 0 0) := by
  have f0 := hF.cell 0
  have r0 := hR.frozen 0
  have r1 := hR.cell 0
  clear hF hR
  by_cases hx : x = 0
  · subst hx
    go_enter_d Tryz.func55, Tryz.ntmps55
    go_wp2_with fail
    go_end0
    exact ⟨rfl, rfl⟩
  · have hx2 : (x != 0) = true := by simp; exact hx
    go_enter_d Tryz.func55, Tryz.ntmps55
    go_wp2_with fail
    go_end0
    exact ⟨rfl, rfl⟩
def rulesDefers (F R : Nat) : List Deferred := [{ target := .fn (.func 35) #[], args := #[.pointer (some ⟨F, 0, none⟩)] }, { target := .fn (.func 55) #[.pointer (some ⟨F, 0, none⟩), .pointer (some ⟨R, 0, none⟩)], args := #[] }]
set_option maxRecDepth 100000 in
theorem rules_returns (tmps : Array Value) (F R : Nat) (p : Int) (v : Value) (tF tR : TypeId) (W : World) (Q : Ending → World → Prop) (h2 : tmps[2]? = some (.pointer (some ⟨R, 0, none⟩))) (h3 : tmps[3]? = some (.pointer (some ⟨F, 0, none⟩)))
    (hF : Blk W F tF #[.int .i64 0, .int .i64 p]) (hR : Blk W R tR #[v]) (hQ : Q (.returned (.tuple #[v, .agg #[.int .i64 0, .int .i64 p]])) W) : Leaves Tryz.prog Tryz.f21 tmps Q (rulesDefers F R) .returning W := by
  have y0 := hR.cell 0
  have y1 := hF.cell 0
  have y2 := hF.cell 1
  refine leaves_cons (f := 35) (args := #[.pointer (some ⟨F, 0, none⟩)]) (by simp) (by simp [go_sem]) ?_
  refine (caught_idle ⟨F, 0, none⟩ W).mono ?_
  rintro e u' w'' ⟨rfl, rfl, rfl⟩
  show Leaves Tryz.prog Tryz.f21 tmps Q _ (settle .returning) w''
  simp only [settle]
  refine leaves_cons (f := 55) (args := #[.pointer (some ⟨F, 0, none⟩), .pointer (some ⟨R, 0, none⟩)]) (by simp) (by simp [go_sem]) ?_
  refine (rules_end F R 0 p v tF tR .returning w'' hF hR).mono ?_
  rintro e u' w3 ⟨rfl, rfl, hw⟩
  rw [if_pos rfl] at hw
  subst hw
  refine ⟨_, ?_, hQ⟩
  simp [results, Tryz.results21, go_sem, h2, h3, y0, y1, y2]
set_option maxRecDepth 100000 in
theorem rules_thrown (tmps : Array Value) (F R B : Nat) (x p a b : Int) (v : Value) (tF tR : TypeId) (W : World) (Q : Ending → World → Prop) (h2 : tmps[2]? = some (.pointer (some ⟨R, 0, none⟩))) (h3 : tmps[3]? = some (.pointer (some ⟨F, 0, none⟩)))
    (hF : Blk W F tF #[.int .i64 a, .int .i64 b]) (hR : Blk W R tR #[v]) (hne : R ≠ F) (hBF : B ≤ F) (hBR : B ≤ R) (hBW : B ≤ W.heap.size) (hx : x ≠ 0) (hQ : ∀ W2, Below B W W2 → Q (.returned (.tuple #[.slice none 0 0, .agg #[.int .i64 x, .int .i64 p]])) W2) :
    Leaves Tryz.prog Tryz.f21 tmps Q (rulesDefers F R) (.panicking [{ v := .iface 126 (.agg #[.int .i64 x, .int .i64 p]), recovered := false }]) W := by
  refine leaves_cons (f := 35) (args := #[.pointer (some ⟨F, 0, none⟩)]) (by simp) (by simp [go_sem]) ?_
  refine (caught_thrown F x p a b tF [] W hF).mono ?_
  rintro e u' w'' ⟨rfl, rfl, hB2, hbut⟩
  have hR2 : Blk w'' R tR #[v] := (hbut.2.2.2.2 R hR.lt hne).trans hR
  show Leaves Tryz.prog Tryz.f21 tmps Q _ (settle (.panicking [{ v := .iface 126 (.agg #[.int .i64 x, .int .i64 p]), recovered := true }])) w''
  simp only [settle, List.dropWhile]
  refine leaves_cons (f := 55) (args := #[.pointer (some ⟨F, 0, none⟩), .pointer (some ⟨R, 0, none⟩)]) (by simp) (by simp [go_sem]) ?_
  refine (rules_end F R x p v tF tR .returning w'' hB2 hR2).mono ?_
  rintro e u' w3 ⟨rfl, rfl, hw⟩
  rw [if_neg hx] at hw
  subst hw
  have hb3 := But.set w'' R 0 (.slice none 0 0)
  have hF3 : Blk (w''.setCell ⟨R, 0, none⟩ (.slice none 0 0)) F tF #[.int .i64 x, .int .i64 p] := (hb3.2.2.2.2 F hB2.lt (Ne.symm hne)).trans hB2
  have hR3 : Blk (w''.setCell ⟨R, 0, none⟩ (.slice none 0 0)) R tR #[.slice none 0 0] := hR2.put 0 _
  have y0 := hR3.cell 0
  have y1 := hF3.cell 0
  have y2 := hF3.cell 1
  have hQ2 := hQ _ ((hbut.to hBW hBF).trans (hb3.to (Nat.le_trans hBW hbut.1) hBR))
  generalize w''.setCell ⟨R, 0, none⟩ (.slice none 0 0) = w9 at *
  refine ⟨_, ?_, hQ2⟩
  simp [results, Tryz.results21, go_sem, h2, h3, y0, y1, y2]
def PtOwn (lo C : Nat) (w : World) (v : Value) (l : List PartD) : Prop := OwnL (PartX w (ItX lo C v)) 98 16 w lo v l
theorem PtOwn.nil (lo C : Nat) (w : World) : PtOwn lo C w (.slice none 0 0) [] := OwnL.nil _ _
theorem PtOwn.form {lo C : Nat} {w : World} {v : Value} {l : List PartD} (h : PtOwn lo C w v l) : ∃ A c, v = .slice A l.length c ∧ l.length ≤ c := OwnL.form h
theorem PtOwn.but {lo C : Nat} {w w' : World} {v : Value} {l : List PartD} (h : PtOwn lo C w v l) (hb : But w C w') (hC : C < lo) : PtOwn lo C w' v l :=
  OwnL.kept (fun _ _ ho => own_but ho hb hC) (fun _ _ => PartX.keep (hb.keeps (fun _ h => h.2.1) (fun _ h _ => h))) h
theorem PtOwn.below {lo C : Nat} {w w' : World} {v : Value} {l : List PartD} (h : PtOwn lo C w v l) (hb : Below w.heap.size w w') : PtOwn lo C w' v l :=
  OwnL.kept (fun _ _ ho => own_below ho hb) (fun _ _ => PartX.keep (Keeps.any hb)) h
theorem PtOwn.put {lo C : Nat} {w : World} {v : Value} {l : List PartD} (h : PtOwn lo C w v l) {g : Nat} (hg : g < lo) (i : Nat) (u : Value) : PtOwn lo C (w.setCell ⟨g, i, none⟩ u) v l :=
  OwnL.kept (fun _ _ ho => own_set_lt ho hg) (fun _ _ => PartX.keep (Keeps.setCell (p := ⟨g, i, none⟩) u (fun b hb => by have := hb.1; show b ≠ g; omega) (fun _ h _ => h))) h
theorem PtOwn.apart {lo C : Nat} {w : World} {v : Value} {l : List PartD} (h : PtOwn lo C w v l) {b : Nat} (hb : w.heap.size ≤ b) : v.ownBlock ≠ some b := by
  obtain ⟨css, h1, h2, h3, h4⟩ := h
  intro e
  have := (own_lt h4 e).2
  omega
theorem PtOwn.push {lo C : Nat} {w : World} {v : Value} {l : List PartD} (h : PtOwn lo C w v l) (a : PartD) {cs : List Value} (ha : PartX w (ItX lo C v) a cs) :
    ∃ ys, w.ownsRow lo 98 16 v l.length ys ∧ ∀ v' w', Appended lo 98 16 v w (l.length + 1) (ys ++ cs) v' w' → PtOwn lo C w' v' (l ++ [a]) := by
  obtain ⟨css, h1, h2, h3, h4⟩ := h
  refine ⟨css.flatten, h4, fun v' w' happ => ?_⟩
  have hk : Keeps w (ItX lo C v) w' (ItX lo C v') := itX_app happ
  exact OwnL.push h1 h2 h3 (fun _ _ => PartX.keep hk) (ha.keep hk) ha.one.1 happ
theorem PtOwn.done {lo C : Nat} {w : World} {A : Option Addr} {c : Nat} {l : List PartD} (h : PtOwn lo C w (.slice A l.length c) l) : PartsX w (fun b => lo ≤ b) A l.length l := by
  have hh := h
  obtain ⟨css, h1, h2, h3, h4⟩ := hh
  exact OwnL.done h (fun _ _ => PartX.keep (Keeps.refl (fun b hb => hb.1))) (fun b hb => (own_lt h4 hb).1)
structure RdFl (w : World) (C : Nat) (A : Option Addr) (n c : Nat) (L : List Int) (wr : World) (j : Nat) (v : Value) (acc : List PartD) : Prop where
  cur : CurAt wr C A n c L j
  row : RdX wr (fun b => w.heap.size + 2 ≤ b ∧ b < C) 1 A n (runeCells L)
  res : Blk wr w.heap.size 41 #[v]
  flt : Blk wr (w.heap.size + 1) 25 #[.int .i64 0, .int .i64 0]
  own : PtOwn (C + 1) C wr v acc
  below : Below w.heap.size w wr
  hC : w.heap.size + 2 ≤ C
section
variable {w wr w' : World} {C : Nat} {A : Option Addr} {n c : Nat} {L : List Int} {j j' : Nat} {v : Value} {acc : List PartD}
theorem RdFl.step (h : RdFl w C A n c L wr j v acc) (hc : CurAt w' C A n c L j') (hb : But wr C w') : RdFl w C A n c L w' j' v acc := by
  have hC := h.hC
  exact ⟨hc, h.row.keep (hb.keeps (fun b h => by have := h.2; omega) (fun _ h _ => h)), (hb.2.2.2.2 _ h.res.lt (by omega)).trans h.res, (hb.2.2.2.2 _ h.flt.lt (by omega)).trans h.flt, h.own.but hb (Nat.lt_succ_self _), h.below.trans (hb.to h.below.size (by omega)), hC⟩
theorem RdFl.on (h : RdFl w C A n c L wr j v acc) (hb : Below wr.heap.size wr w') : RdFl w C A n c L w' j v acc :=
  ⟨h.cur.below hb, h.row.keep (Keeps.any hb), h.res.below hb h.res.lt, h.flt.below hb h.flt.lt, h.own.below hb, h.below.trans (hb.mono h.below.size), h.hC⟩
theorem RdFl.push (h : RdFl w C A n c L wr j v acc) {v' : Value} {w9 : World} {m : Nat} {ys zs : List Value} {l : List PartD} (hown : wr.ownsRow (C + 1) 98 16 v m ys) (happ : Appended (C + 1) 98 16 v wr (m + 1) zs v' w9) (hn : PtOwn (C + 1) C w9 v' l) (hsz : C + 1 ≤ wr.heap.size) :
    RdFl w C A n c L (w9.setCell ⟨w.heap.size, 0, none⟩ v') j v' l := by
  have hC := h.hC
  have hb9 : Below (C + 1) wr w9 := happ.below hsz hown
  have hcb : CurAt w9 C A n c L j := ⟨h.cur.blk.same (hb9.block C (Nat.lt_succ_self _)), ((h.row.keep (X' := fun b => w.heap.size + 2 ≤ b ∧ b < C) (fun b hX hl => ⟨hb9.block b (by omega), hX, Nat.lt_of_lt_of_le hl hb9.size⟩)).lift (fun b h => by have := h.2; omega)), h.cur.size, h.cur.le, h.cur.cap⟩
  have hrow9 : RdX w9 (fun b => w.heap.size + 2 ≤ b ∧ b < C) 1 A n (runeCells L) := h.row.keep (fun b hX hl => ⟨hb9.block b (by omega), hX, Nat.lt_of_lt_of_le hl hb9.size⟩)
  have hres9 : Blk w9 w.heap.size 41 #[v] := (hb9.block _ (by omega)).trans h.res
  have hflt9 : Blk w9 (w.heap.size + 1) 25 #[.int .i64 0, .int .i64 0] := (hb9.block _ (by omega)).trans h.flt
  have hbel9 : Below w.heap.size w w9 := h.below.trans (hb9.mono (by omega))
  have hb := But.set w9 w.heap.size 0 v'
  have hrow : RdX (w9.setCell ⟨w.heap.size, 0, none⟩ v') (fun b => w.heap.size + 2 ≤ b ∧ b < C) 1 A n (runeCells L) := hrow9.keep (hb.keeps (fun b h => by have := h.1; omega) (fun _ h _ => h))
  exact ⟨⟨hcb.blk.same (hb.2.2.2.2 C hcb.blk.lt (by omega)), hrow.lift (fun b h => by have := h.2; omega), hcb.size, hcb.le, hcb.cap⟩, hrow, hres9.put 0 v', (hb.2.2.2.2 _ hflt9.lt (by omega)).trans hflt9, hn.put (by omega) 0 v', hbel9.trans (hb.to hbel9.size (Nat.le_refl _)), hC⟩
end
def RulesPost (w : World) (r : List PartD × (Int × Int)) (e : Ending) (w' : World) : Prop :=
  (∃ A n c, e = .returned (.tuple #[.slice A n c, .agg #[.int .i64 r.2.1, .int .i64 r.2.2]]) ∧ PartsX w' (fun b => w.heap.size ≤ b) A n r.1 ∧ n ≤ c) ∧ Below w.heap.size w w'
theorem PartsX.nil (w : World) (X : Nat → Prop) : PartsX w X none 0 [] := ⟨[], rfl, rfl, by simp, by simp, RdX.nil 16⟩
end Go.Proofs.YthnhbcohfoodlaaGreatDoor
