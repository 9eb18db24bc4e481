/- RdFileFr -/
import Derived.Test.YthnhbcohfoodlaaGreatDoorZw46
import Derived.Test.YthnhbcohfoodlaaGreatDoorZw44
import Derived.Test.YthnhbcohfoodlaaGreatDoorZw0
set_option maxRecDepth 100000
namespace Go.Proofs.YthnhbcohfoodlaaGreatDoor
open Go.RowKit
theorem xL (F R : Nat) (x p : Int) (v : Value) (tF tR : TypeId) (u : FrameMode) (w : World) (hF : au w F tF #[.int .i64 x, .int .i64 p]) (hR : au w R tR #[v]) :
    CallsD Tryz.prog 55 #[.pointer (some ⟨F, 0, none⟩), .pointer (some ⟨R, 0, none⟩)] u w fun e u' w' => u' = u ∧ e = .returned (.tuple #[]) ∧ w' = if x = 0 then w else w.setCell ⟨R, 0, none⟩ (.slice none 0 0) := by
 have f0 := hF.cell 0;have r0 := hR.frozen 0;have r1 := hR.cell 0;clear hF hR;by_cases hx : x = 0
 ·subst hx;go_enter_d Tryz.func55, Tryz.ntmps55;go_wp2_with fail;go_end0;exact ⟨rfl, rfl⟩
 have hx2 : (x != 0) = true := (by simp; exact hx);go_enter_d Tryz.func55, Tryz.ntmps55;go_wp2_with fail;go_end0;exact ⟨rfl, rfl⟩
def sL (F R : Nat) : List Deferred := [{ target := .fn (.func 35) #[], args := #[.pointer (some ⟨F, 0, none⟩)] }, { target := .fn (.func 55) #[.pointer (some ⟨F, 0, none⟩), .pointer (some ⟨R, 0, none⟩)], args := #[] }]
theorem wB (tmps : Array Value) (F R : Nat) (p : Int) (v : Value) (tF tR : TypeId) (W : World) (Q : Ending → World → Prop) (h2 : tmps[2]? = some (.pointer (some ⟨R, 0, none⟩))) (h3 : tmps[3]? = some (.pointer (some ⟨F, 0, none⟩)))
    (hF : au W F tF #[.int .i64 0, .int .i64 p]) (hR : au W R tR #[v]) (hQ : Q (.returned (.tuple #[v, .agg #[.int .i64 0, .int .i64 p]])) W) : Leaves Tryz.prog Tryz.f21 tmps Q (sL F R) .returning W := by
 have y0 := hR.cell 0;have y1 := hF.cell 0;have y2 := hF.cell 1;refine leaves_cons (f := 35) (args := #[.pointer (some ⟨F, 0, none⟩)]) (by simp) (by simp [go_sem]) ?_;refine (Bj ⟨F, 0, none⟩ W).mono ?_;rintro e u' w'' ⟨rfl, rfl, rfl⟩;show Leaves Tryz.prog Tryz.f21 tmps Q _ (settle .returning) w'';simp only [settle];refine leaves_cons (f := 55) (args := #[.pointer (some ⟨F, 0, none⟩), .pointer (some ⟨R, 0, none⟩)]) (by simp) (by simp [go_sem]) ?_;refine (xL F R 0 p v tF tR .returning w'' hF hR).mono ?_;rintro e u' w3 ⟨rfl, rfl, hw⟩;rw [if_pos rfl] at hw;subst hw;refine ⟨_, ?_, hQ⟩;simp [results, Tryz.results21, go_sem, h2, h3, y0, y1, y2]
theorem gr (tmps : Array Value) (F R B : Nat) (x p a b : Int) (v : Value) (tF tR : TypeId) (W : World) (Q : Ending → World → Prop) (h2 : tmps[2]? = some (.pointer (some ⟨R, 0, none⟩))) (h3 : tmps[3]? = some (.pointer (some ⟨F, 0, none⟩)))
    (hF : au W F tF #[.int .i64 a, .int .i64 b]) (hR : au W R tR #[v]) (hne : R ≠ F) (hBF : B ≤ F) (Zl : B ≤ R) (WU : B ≤ W.heap.size) (hx : x ≠ 0) (hQ : ∀ W2, Below B W W2 → Q (.returned (.tuple #[.slice none 0 0, .agg #[.int .i64 x, .int .i64 p]])) W2) :
    Leaves Tryz.prog Tryz.f21 tmps Q (sL F R) (.panicking [{ v := .iface 126 (.agg #[.int .i64 x, .int .i64 p]), recovered := false }]) W := by
 refine leaves_cons (f := 35) (args := #[.pointer (some ⟨F, 0, none⟩)]) (by simp) (by simp [go_sem]) ?_;refine (wA F x p a b tF [] W hF).mono ?_;rintro e u' w'' ⟨rfl, rfl, LU, lY⟩;have ON : au w'' R tR #[v] := (lY.2.2.2.2 R hR.lt hne).trans hR;show Leaves Tryz.prog Tryz.f21 tmps Q _ (settle (.panicking [{ v := .iface 126 (.agg #[.int .i64 x, .int .i64 p]), recovered := true }])) w'';simp only [settle, List.dropWhile];refine leaves_cons (f := 55) (args := #[.pointer (some ⟨F, 0, none⟩), .pointer (some ⟨R, 0, none⟩)]) (by simp) (by simp [go_sem]) ?_;refine (xL F R x p v tF tR .returning w'' LU ON).mono ?_;rintro e u' w3 ⟨rfl, rfl, hw⟩;rw [if_neg hx] at hw;subst hw;have aJ := bK.set w'' R 0 (.slice none 0 0);have Wq : au (w''.setCell ⟨R, 0, none⟩ (.slice none 0 0)) F tF #[.int .i64 x, .int .i64 p] := (aJ.2.2.2.2 F LU.lt (Ne.symm hne)).trans LU;have ZL : au (w''.setCell ⟨R, 0, none⟩ (.slice none 0 0)) R tR #[.slice none 0 0] := ON.put 0 _;have y0 := ZL.cell 0;have y1 := Wq.cell 0;have y2 := Wq.cell 1;have YS := hQ _ ((lY.to WU hBF).trans (aJ.to (Nat.le_trans WU lY.1) Zl));generalize w''.setCell ⟨R, 0, none⟩ (.slice none 0 0) = w9 at *;refine ⟨_, ?_, YS⟩;simp [results, Tryz.results21, go_sem, h2, h3, y0, y1, y2]
def fY (lo C : Nat) (w : World) (v : Value) (l : List ay) : Prop := dc (cz w (uy lo C v)) 98 16 w lo v l
theorem fY.nil (lo C : Nat) (w : World) : fY lo C w (.slice none 0 0) [] := dc.nil _ _
theorem fY.form {lo C : Nat} {w : World} {v : Value} {l : List ay} (h : fY lo C w v l) : ∃ A c, v = .slice A l.length c ∧ l.length ≤ c := dc.form h
theorem fY.but {lo C : Nat} {w w' : World} {v : Value} {l : List ay} (h : fY lo C w v l) (hb : bK w C w') (hC : C < lo) : fY lo C w' v l :=
  dc.kept (fun _ _ ho => Eu ho hb hC) (fun _ _ => cz.keep (hb.keeps (fun _ h => h.2.1) (fun _ h _ => h))) h
theorem fY.below {lo C : Nat} {w w' : World} {v : Value} {l : List ay} (h : fY lo C w v l) (hb : Below w.heap.size w w') : fY lo C w' v l :=
  dc.kept (fun _ _ ho => eX ho hb) (fun _ _ => cz.keep (ag.any hb)) h
theorem fY.put {lo C : Nat} {w : World} {v : Value} {l : List ay} (h : fY lo C w v l) {g : Nat} (hg : g < lo) (i : Nat) (u : Value) : fY lo C (w.setCell ⟨g, i, none⟩ u) v l :=
  dc.kept (fun _ _ ho => uw ho hg) (fun _ _ => cz.keep (ag.setCell (p := ⟨g, i, none⟩) u (fun b hb => by have := hb.1; show b ≠ g; omega) (fun _ h _ => h))) h
theorem fY.apart {lo C : Nat} {w : World} {v : Value} {l : List ay} (h : fY lo C w v l) {b : Nat} (hb : w.heap.size ≤ b) : v.ownBlock ≠ some b := by
 obtain ⟨css, h1, h2, h3, h4⟩ := h;intro e;have := (bM h4 e).2;omega
theorem fY.push {lo C : Nat} {w : World} {v : Value} {l : List ay} (h : fY lo C w v l) (a : ay) {cs : List Value} (ha : cz w (uy lo C v) a cs) :
    ∃ ys, w.ownsRow lo 98 16 v l.length ys ∧ ∀ v' w', bg lo 98 16 v w (l.length + 1) (ys ++ cs) v' w' → fY lo C w' v' (l ++ [a]) := by
 obtain ⟨css, h1, h2, h3, h4⟩ := h;refine ⟨css.flatten, h4, fun v' w' aB => ?_⟩;have hk : ag w (uy lo C v) w' (uy lo C v') := zh aB;exact dc.push h1 h2 h3 (fun _ _ => cz.keep hk) (ha.keep hk) ha.one.1 aB
theorem fY.done {lo C : Nat} {w : World} {A : Option Addr} {c : Nat} {l : List ay} (h : fY lo C w (.slice A l.length c) l) : eG w (fun b => lo ≤ b) A l.length l := by
 have hh := h;obtain ⟨css, h1, h2, h3, h4⟩ := hh;exact dc.done h (fun _ _ => cz.keep (ag.refl (fun b hb => hb.1))) (fun b hb => (bM h4 hb).1)
structure tj (w : World) (C : Nat) (A : Option Addr) (n c : Nat) (L : List Int) (wr : World) (j : Nat) (v : Value) (acc : List ay) : Prop where
  cur : av wr C A n c L j
  row : fl wr (fun b => w.heap.size + 2 ≤ b ∧ b < C) 1 A n (runeCells L)
  res : au wr w.heap.size 41 #[v]
  flt : au wr (w.heap.size + 1) 25 #[.int .i64 0, .int .i64 0]
  own : fY (C + 1) C wr v acc
  below : Below w.heap.size w wr
  hC : w.heap.size + 2 ≤ C
section
variable {w wr w' : World} {C : Nat} {A : Option Addr} {n c : Nat} {L : List Int} {j j' : Nat} {v : Value} {acc : List ay}
theorem tj.step (h : tj w C A n c L wr j v acc) (hc : av w' C A n c L j') (hb : bK wr C w') : tj w C A n c L w' j' v acc := by
 have hC := h.hC;exact ⟨hc, h.row.keep (hb.keeps (fun b h => by have := h.2; omega) (fun _ h _ => h)), (hb.2.2.2.2 _ h.res.lt (by omega)).trans h.res, (hb.2.2.2.2 _ h.flt.lt (by omega)).trans h.flt, h.own.but hb (Nat.lt_succ_self _), h.below.trans (hb.to h.below.size (by omega)), hC⟩
theorem tj.on (h : tj w C A n c L wr j v acc) (hb : Below wr.heap.size wr w') : tj w C A n c L w' j v acc :=
  ⟨h.cur.below hb, h.row.keep (ag.any hb), h.res.below hb h.res.lt, h.flt.below hb h.flt.lt, h.own.below hb, h.below.trans (hb.mono h.below.size), h.hC⟩
theorem tj.push (h : tj w C A n c L wr j v acc) {v' : Value} {w9 : World} {m : Nat} {ys zs : List Value} {l : List ay} (hown : wr.ownsRow (C + 1) 98 16 v m ys) (aB : bg (C + 1) 98 16 v wr (m + 1) zs v' w9) (hn : fY (C + 1) C w9 v' l) (hsz : C + 1 ≤ wr.heap.size) :
    tj w C A n c L (w9.setCell ⟨w.heap.size, 0, none⟩ v') j v' l := by
 have hC := h.hC;have dn : Below (C + 1) wr w9 := aB.below hsz hown;have hcb : av w9 C A n c L j := ⟨h.cur.ey.same (dn.block C (Nat.lt_succ_self _)), ((h.row.keep (X' := fun b => w.heap.size + 2 ≤ b ∧ b < C) (fun b hX hl => ⟨dn.block b (by omega), hX, Nat.lt_of_lt_of_le hl dn.size⟩)).lift (fun b h => by have := h.2; omega)), h.cur.size, h.cur.le, h.cur.cap⟩;have Pd : fl w9 (fun b => w.heap.size + 2 ≤ b ∧ b < C) 1 A n (runeCells L) := h.row.keep (fun b hX hl => ⟨dn.block b (by omega), hX, Nat.lt_of_lt_of_le hl dn.size⟩);have PM : au w9 w.heap.size 41 #[v] := (dn.block _ (by omega)).trans h.res;have L8 : au w9 (w.heap.size + 1) 25 #[.int .i64 0, .int .i64 0] := (dn.block _ (by omega)).trans h.flt;have MJ : Below w.heap.size w w9 := h.below.trans (dn.mono (by omega));have hb := bK.set w9 w.heap.size 0 v';have hrow : fl (w9.setCell ⟨w.heap.size, 0, none⟩ v') (fun b => w.heap.size + 2 ≤ b ∧ b < C) 1 A n (runeCells L) := Pd.keep (hb.keeps (fun b h => by have := h.1; omega) (fun _ h _ => h));exact ⟨⟨hcb.ey.same (hb.2.2.2.2 C hcb.ey.lt (by omega)), hrow.lift (fun b h => by have := h.2; omega), hcb.size, hcb.le, hcb.cap⟩, hrow, PM.put 0 v', (hb.2.2.2.2 _ L8.lt (by omega)).trans L8, hn.put (by omega) 0 v', MJ.trans (hb.to MJ.size (Nat.le_refl _)), hC⟩
end
def xq (w : World) (r : List ay × (Int × Int)) (e : Ending) (w' : World) : Prop :=
  (∃ A n c, e = .returned (.tuple #[.slice A n c, .agg #[.int .i64 r.2.1, .int .i64 r.2.2]]) ∧ eG w' (fun b => w.heap.size ≤ b) A n r.1 ∧ n ≤ c) ∧ Below w.heap.size w w'
theorem eG.nil (w : World) (X : Nat → Prop) : eG w X none 0 [] := ⟨[], rfl, rfl, by simp, by simp, fl.nil 16⟩
end Go.Proofs.YthnhbcohfoodlaaGreatDoor
