/- ReadyArm + ReadyBd + ReadyEnd + ClassSpan -/
import Derived.Test.YthnhbcohfoodlaaGreatDoorZw28
import Derived.Test.YthnhbcohfoodlaaGreatDoorZw11
import Derived.Test.YthnhbcohfoodlaaGreatDoorZw0
import Derived.Deep.DeepCutAuto
set_option maxHeartbeats 3200000
set_option maxRecDepth 100000
namespace Go.Proofs.YthnhbcohfoodlaaGreatDoor
open Go.RowKit Go.Maps
theorem qL {w w1 : World} {X : Nat → Prop} {mb : Nat} (hg : w.grownBy w1 (some mb)) (hX : ∀ b, X b → b ≠ mb) : ag w X w1 X := fun b hx hl =>
  ⟨hg.block b hl (fun e => hX b hx (by injection e)), hx, Nat.lt_of_lt_of_le hl hg.size⟩
theorem mj {w w1 : World} {mb g : Nat} {t : TypeId} {cs : Array Value} (hg : w.grownBy w1 (some mb)) (h : au w g t cs) (hne : g ≠ mb) : au w1 g t cs :=
  (hg.block g h.lt (fun e => hne (by injection e))).trans h
theorem KP {w w1 : World} {mb lo sz n : Nat} {e : TypeId} {v : Value} {xs : List Value} (hg : w.grownBy w1 (some mb)) (hm : mb < lo) (h : w.ownsRow lo e sz v n xs) : w1.ownsRow lo e sz v n xs := by
 refine World.ownsRow.kept h hg ?_;cases hv : v.ownBlock with
 | none => exact .inl rfl
 | some b =>
  right;intro e;injection e with e;have := (bM h hv).1;omega
theorem cQ.map {B lo mb : Nat} {A A2 : List eB} {P P2 : List fk} {va vb vp vq : Value} {wx w1 : World} (h : cQ B lo A A2 P P2 va vb vp vq wx) (hg : wx.grownBy w1 (some mb)) (h1 : B ≤ mb) (h2 : mb < lo) : cQ B lo A A2 P P2 va vb vp vq w1 :=
  cQ.kept (qL hg (fun b hb => by rcases hb with h | h <;> omega)) (fun _ _ _ _ _ h => KP hg h2 h) h
theorem iw.map {ga gb gp gq mb : Nat} {ca cb cp cq : Value} {wx w1 : World} (h : iw ga gb gp gq ca cb cp cq wx) (hg : wx.grownBy w1 (some mb)) (h1 : ga ≠ mb) (h2 : gb ≠ mb) (h3 : gp ≠ mb) (h4 : gq ≠ mb) : iw ga gb gp gq ca cb cp cq w1 :=
  ⟨mj hg h.1 h1, mj hg h.2.1 h2, mj hg h.2.2.1 h3, mj hg h.2.2.2 h4⟩
theorem iw.below {ga gb gp gq : Nat} {ca cb cp cq : Value} {wx w1 : World} (h : iw ga gb gp gq ca cb cp cq wx) (hb : Below wx.heap.size wx w1) : iw ga gb gp gq ca cb cp cq w1 :=
  ⟨au.below h.1 hb h.1.lt, au.below h.2.1 hb h.2.1.lt, au.below h.2.2.1 hb h.2.2.1.lt, au.below h.2.2.2 hb h.2.2.2.lt⟩
theorem iw.set {ga gb gp gq g i : Nat} {u : Value} {ca cb cp cq : Value} {wx : World} (h : iw ga gb gp gq ca cb cp cq wx) (h1 : ga ≠ g) (h2 : gb ≠ g) (h3 : gp ≠ g) (h4 : gq ≠ g) : iw ga gb gp gq ca cb cp cq (wx.setCell ⟨g, i, none⟩ u) :=
  ⟨aj h.1 h1, aj h.2.1 h2, aj h.2.2.1 h3, aj h.2.2.2 h4⟩
theorem jv.map {w wx w1 : World} {cf cb cr : Array Value} {mb : Nat} (h : jv w cf cb cr wx) (hg : wx.grownBy w1 (some mb)) (hm : w.heap.size + 3 ≤ mb) : jv w cf cb cr w1 :=
  ⟨mj hg h.1 (by omega), mj hg h.2.1 (by omega), mj hg h.2.2.1 (by omega), h.2.2.2.grown hg h.2.2.2.size (fun k e => by injection e with e; omega)⟩
theorem jv.QJ {w wx : World} {cf cb cr : Array Value} (h : jv w cf cb cr wx) (i : Nat) (u : Value) : jv w (cf.setIfInBounds i u) cb cr (wx.setCell ⟨w.heap.size, i, none⟩ u) :=
  ⟨h.1.put i u, aj h.2.1 (by omega), aj h.2.2.1 (by omega), h.2.2.2.setCell (by simp) _⟩
theorem cQ.fresh {B lo : Nat} {A A2 : List eB} {P P2 : List fk} {va vb vp vq : Value} {wx : World} (h : cQ B lo A A2 P P2 va vb vp vq wx) (hlo : lo ≤ wx.heap.size) : ∀ b, wx.heap.size ≤ b → bw B lo va vb vp vq b := by
 obtain ⟨⟨_, _, _, _, o1⟩, ⟨_, _, _, _, o2⟩, ⟨_, _, _, _, o3⟩, ⟨_, _, _, _, o4⟩, _⟩ := h;intro b hb;have ne : ∀ {e : TypeId} {sz n : Nat} {v : Value} {xs : List Value}, wx.ownsRow lo e sz v n xs → v.ownBlock ≠ some b := fun ho e => by
  have := (bM ho e).2;omega
 exact .inr ⟨by omega, ne o1, ne o2, ne o3, ne o4⟩
theorem fo.set {w : World} {B mb n g i : Nat} {l : List ay} {u : Value} (h : fo w (· < B) mb n l) (h1 : B ≤ g) (h2 : g ≠ mb) : fo (w.setCell ⟨g, i, none⟩ u) (· < B) mb n l :=
  fo.keep (ag.setCell u (fun b hb => by dsimp only; omega) (fun _ h _ => h)) (Below.heap_setCell _ _ _ _ (Ne.symm h2)) h
theorem fo.below {w w' : World} {B mb n : Nat} {l : List ay} (h : fo w (· < B) mb n l) (hb : Below w.heap.size w w') : fo w' (· < B) mb n l :=
  fo.keep (ag.below hb (fun _ h _ => h)) (hb.block _ h.lt) h
theorem xd {l : List ay} {k : Nat} {s t : MI} (h1 : dz false l k = .ok s) (h2 : dz true l k = .ok t) : s.some? = t.some? ∧ s.only = t.only := by
 rcases xw l k with ⟨s', t', g1, g2, g3, g4⟩ | ⟨e, g1, _⟩
 ·rw [h1] at g1;rw [h2] at g2;injection g1 with g1;injection g2 with g2;subst g1 g2;exact ⟨g3, g4⟩
 rw [h1] at g1;cases g1
theorem nI {B lo : Nat} {l : List ay} {er : Int} {k : Nat} (hw : (bN l).1 = 0) (hk : k + 1 ≤ l.length) (h1 : dz false l (k + 1) = .error (er, (k : Int))) (h2 : dz true l (k + 1) = .error (er, (k : Int))) (w' : World) :
    qy B lo w' l (.returned (.tuple #[.agg #[.bool false, .slice none 0 0, .slice none 0 0], .agg #[.bool false, .slice none 0 0, .slice none 0 0], .agg #[.int .i64 er, .int .i64 k]])) := by
 have e1 := jJ hw hk h1;have e2 := jJ hw hk h2;exact ⟨[.bool false, .slice none 0 0, .slice none 0 0], [.bool false, .slice none 0 0, .slice none 0 0], rfl, rfl, by rw [e1], by rw [e1]; exact nO _ _, by rw [e2]; exact nO _ _⟩
section
variable {back : Bool} {l : List ay} {k : Nat} {p : ay} {s : MI}
theorem pK {x : af} (h : p.kind = 1) (hl : fD (l.take k) p.name = some x) : iH back l k p s = .error (7, (k : Int)) := by
 unfold iH; rw [if_pos h, hl]
theorem ot (h : p.kind = 1) (hl : fD (l.take k) p.name = none) : iH back l k p s = .ok s := by
 unfold iH; rw [if_pos h, hl]
theorem kK (h : p.kind = 3) (hs : s.some? = true) : iH back l k p s = .error (5, (k : Int)) := by
 unfold iH; rw [h, if_neg (by decide), if_pos rfl, if_pos hs]
theorem step_filter (h : p.kind = 3) (hs : s.some? = false) : iH back l k p s = .ok ⟨true, p.set, s.ps, s.a⟩ := by
 unfold iH; rw [h, if_neg (by decide), if_pos rfl, if_neg (by rw [hs]; decide)]
theorem xZ (h : p.kind = 4) : iH back l k p s = .ok ⟨s.some?, s.only, s.ps ++ gj s.a ++ [⟨if back = true then dO p.name else p.name, []⟩], []⟩ := by
 unfold iH; rw [h, if_neg (by decide), if_neg (by decide), if_pos rfl]
theorem jK (h : p.kind = 2) (hr : ((eM (l.take k) p.left p.right).isSome && (eM (l.take k) p.right p.left).isSome) = false) : iH back l k p s = .error (7, (k : Int)) := by
 unfold iH;rw [h, if_neg (by decide), if_neg (by decide), if_neg (by decide)];cases h1 : eM (l.take k) p.left p.right with
 | none => rfl
 | some x =>
  cases h2 : eM (l.take k) p.right p.left with
  | none => rfl
  | some y => rw [h1, h2] at hr; cases hr
theorem xe {x y : eB} (h : p.kind = 2) (h1 : eM (l.take k) p.left p.right = some x) (h2 : eM (l.take k) p.right p.left = some y) :
    iH back l k p s = .ok (if (back = true ∧ p.dir = 1) ∨ (back = false ∧ p.dir = 2) then s else ⟨s.some?, s.only, s.ps, s.a ++ [if back = true then y else x]⟩) := by
 unfold iH;rw [h, if_neg (by decide), if_neg (by decide), if_neg (by decide), h1, h2]
end
end Go.Proofs.YthnhbcohfoodlaaGreatDoor
namespace Go.Proofs.YthnhbcohfoodlaaGreatDoor
open Go.RowKit Go.Maps
theorem Fe : (Tryz.prog.info? 121).map (fun i => (i.zero, i.size, i.bytes)) = some (some (.agg iu), 7, 112) := by kernel_rfl
structure fM (B : Nat) (w : World) (mb nm : Nat) (l : List ay) (sm : Bool) (only : af) (A A2 : List eB) (P P2 : List fk) (va vb vp vq : Value) (Af : Option Addr) (nf cf : Nat) (wr : World) : Prop where
  hB : B ≤ w.heap.size
  env : fo wr (· < B) mb nm l
  ry : cQ B (mb + 5) A A2 P P2 va vb vp vq wr
  v4 : iw (mb + 1) (mb + 2) (mb + 3) (mb + 4) va vb vp vq wr
  sz : mb + 5 ≤ wr.heap.size
  lo : w.heap.size + 3 ≤ mb
  res : jv w #[.bool sm, .slice Af nf cf, .slice none 0 0] aD #[.int .i64 0, .int .i64 0] wr
  set : js wr (bw B (mb + 5) va vb vp vq) only (.slice Af nf cf)
section
variable {B : Nat} {w wr w2 w9 : World} {mb nm : Nat} {l : List ay} {sm : Bool} {only : af} {A A2 : List eB} {P P2 : List fk} {va vb vp vq v' : Value} {Af : Option Addr} {nf cf : Nat}
theorem fM.below (h : fM B w mb nm l sm only A A2 P P2 va vb vp vq Af nf cf wr) (hb : Below wr.heap.size wr w2) : fM B w mb nm l sm only A A2 P P2 va vb vp vq Af nf cf w2 :=
  ⟨h.hB, h.env.below hb, h.ry.below hb, h.v4.below hb, Nat.le_trans h.sz hb.size, h.lo, h.res.below hb, h.set.keep (ag.below hb (fun _ h _ => h))⟩
theorem fM.alloc (h : fM B w mb nm l sm only A A2 P P2 va vb vp vq Af nf cf wr) (o : Obj) : fM B w mb nm l sm only A A2 P P2 va vb vp vq Af nf cf (wr.alloc o) := h.below ((Below.refl _ _).alloc (Nat.le_refl _) o)
theorem fM.drew (h : fM B w mb nm l sm only A A2 P P2 va vb vp vq Af nf cf wr) : fM B w mb nm l sm only A A2 P P2 va vb vp vq Af nf cf wr.drew := h.below (Below.refl _ _).drew
theorem jv.KJ {cf cb cr : Array Value} (h : jv w cf cb cr wr) {g i : Nat} {u : Value} (hg : w.heap.size + 3 ≤ g) : jv w cf cb cr (wr.setCell ⟨g, i, none⟩ u) :=
  ⟨aj h.1 (by omega), aj h.2.1 (by omega), aj h.2.2.1 (by omega), h.2.2.2.setCell (by simp only; omega) _⟩
theorem cQ.rows (h : cQ B (mb + 5) A A2 P P2 va vb vp vq wr) : (∀ b, va.ownBlock = some b → mb + 5 ≤ b ∧ b < wr.heap.size) ∧ (∀ b, vb.ownBlock = some b → mb + 5 ≤ b ∧ b < wr.heap.size) ∧ (∀ b, vp.ownBlock = some b → mb + 5 ≤ b ∧ b < wr.heap.size) ∧ (∀ b, vq.ownBlock = some b → mb + 5 ≤ b ∧ b < wr.heap.size) := by
 obtain ⟨⟨_, _, _, _, o1⟩, ⟨_, _, _, _, o2⟩, ⟨_, _, _, _, o3⟩, ⟨_, _, _, _, o4⟩, _⟩ := h;exact ⟨fun b hb => bM o1 hb, fun b hb => bM o2 hb, fun b hb => bM o3 hb, fun b hb => bM o4 hb⟩
theorem fM.app (h : fM B w mb nm l sm only A A2 P P2 va vb vp vq Af nf cf wr) {e t : TypeId} {sz n m : Nat} {v : Value} {xs ys : List Value} {cs : Array Value} (ho : wr.ownsRow (mb + 5) e sz v n xs)
    (h1 : 116 ≠ e) (h2 : 51 ≠ e) (h3 : 53 ≠ e) (h4 : 25 ≠ e) (ha : bg (mb + 5) e sz v (wr.alloc (.cells cs t)) m ys v' w9) :
    fo w9 (· < B) mb nm l ∧ iw (mb + 1) (mb + 2) (mb + 3) (mb + 4) va vb vp vq w9 ∧ jv w #[.bool sm, .slice Af nf cf, .slice none 0 0] aD #[.int .i64 0, .int .i64 0] w9 ∧ mb + 5 ≤ w9.heap.size := by
 have ha0 := h.alloc (.cells cs t);have Fz := World.ownsRow.alloc ho (.cells cs t);have hlo := h.lo;have hBw := h.hB
 refine ⟨fo.keep (ag.app ha (fun b hb e => ?_) (fun _ h _ => h)) (ha.2.1.block mb ha0.env.lt (fun e => ?_)) ha0.env, ⟨cT ha0.v4.1 Fz h1 ha, cT ha0.v4.2.1 Fz h1 ha, cT ha0.v4.2.2.1 Fz h2 ha, cT ha0.v4.2.2.2 Fz h2 ha⟩,
   ⟨cT ha0.res.1 Fz h3 ha, cT ha0.res.2.1 Fz h3 ha, cT ha0.res.2.2.1 Fz h4 ha, ha0.res.2.2.2.trans (ha.below ha0.res.2.2.2.size (mN Fz (by omega)))⟩, Nat.le_trans ha0.sz ha.2.1.size⟩
 ·have := (bM Fz e).1;omega
 have := (bM Fz e.symm).1;omega
theorem sG {lo : Nat} (VJ : B ≤ lo) {t : TypeId} {cs : Array Value} {n m sz : Nat} {e : TypeId} {xs ys : List Value} (h4 : wr.ownsRow lo e sz vp n xs) (ha : bg lo e sz vp (wr.alloc (.cells cs t)) m ys v' w9) :
    ag wr (bw B lo va vb vp vq) w9 (bw B lo va vb v' vq) := by
 intro b hb hl;have jP : b < (wr.alloc (.cells cs t)).heap.size := (by simp; omega);have hne : vp.ownBlock ≠ some b := by
  rcases hb with hb | hb
  ·intro e;have := (bM h4 e).1;omega
  exact hb.2.2.2.1
 refine ⟨(ha.2.1.block b jP (fun e => hne e.symm)).trans (heap_alloc_old wr _ hl), hb.imp id (fun ⟨a1, a2, a3, a4, a5⟩ => ⟨a1, a2, a3, ?_, a5⟩), Nat.lt_of_lt_of_le jP ha.2.1.size⟩;rcases ha.2.2 with e | e
 ·rw [e]; exact a4
 rw [e];intro he;injection he with he;simp at he;omega
theorem mQ {lo : Nat} (VJ : B ≤ lo) {t : TypeId} {cs : Array Value} {n m sz : Nat} {e : TypeId} {xs ys : List Value} (h4 : wr.ownsRow lo e sz va n xs) (ha : bg lo e sz va (wr.alloc (.cells cs t)) m ys v' w9) :
    ag wr (bw B lo va vb vp vq) w9 (bw B lo v' vb vp vq) := by
 intro b hb hl;have jP : b < (wr.alloc (.cells cs t)).heap.size := (by simp; omega);have hne : va.ownBlock ≠ some b := by
  rcases hb with hb | hb
  ·intro e;have := (bM h4 e).1;omega
  exact hb.2.1
 refine ⟨(ha.2.1.block b jP (fun e => hne e.symm)).trans (heap_alloc_old wr _ hl), hb.imp id (fun ⟨a1, a2, a3, a4, a5⟩ => ⟨a1, ?_, a3, a4, a5⟩), Nat.lt_of_lt_of_le jP ha.2.1.size⟩;rcases ha.2.2 with e | e
 ·rw [e]; exact a2
 rw [e];intro he;injection he with he;simp at he;omega
theorem mS {lo g i : Nat} {u : Value} (h1 : B ≤ g) (h2 : g < lo) : ag wr (bw B lo va vb vp vq) (wr.setCell ⟨g, i, none⟩ u) (bw B lo va vb vp vq) :=
  ag.setCell u (fun b hb => by rcases hb with h | h <;> dsimp only <;> omega) (fun _ h _ => h)
theorem fM.xF {css : List (List Value)} {p : fk} {cs : List Value} {t : TypeId} (h : fM B w mb nm l sm only A A2 P P2 va vb vp vq Af nf cf wr) (h1 : css.length = P.length)
    (h2 : ∀ (i : Nat) (a : fk) (cs : List Value), P[i]? = some a → css[i]? = some cs → ez wr (bw B (mb + 5) va vb vp vq) a cs) (h3 : ∀ cs ∈ css, cs.length = 2) (h4 : wr.ownsRow (mb + 5) 118 2 vp P.length css.flatten)
    (hp : ez wr (bw B (mb + 5) va vb vp vq) p cs) (hcs : cs.length = 2) (ha : bg (mb + 5) 118 2 vp (wr.alloc (.cells cs.toArray t)) (P.length + 1) (css.flatten ++ cs) v' w9) :
    fM B w mb nm l sm only A A2 (P ++ [p]) P2 va vb v' vq Af nf cf (w9.setCell ⟨mb + 3, 0, none⟩ v') := by
 have hlo := h.lo;have hBw := h.hB;obtain ⟨g1, g2, g3, g4⟩ := h.app h4 (by decide) (by decide) (by decide) (by decide) ha;refine ⟨hBw, g1.set (by omega) (by omega), (cQ.xF (by omega) h.ry h1 h2 h3 h4 hp hcs ha).set (by omega) (by omega), ⟨aj g2.1 (by omega), aj g2.2.1 (by omega), ?_, aj g2.2.2.2 (by omega)⟩, by simpa using g4, hlo, g3.KJ (by omega), (h.set.keep (sG (by omega) h4 ha)).keep (mS (by omega) (by omega))⟩;exact g2.2.2.1.put 0 _
theorem fM.Qf {css : List (List Value)} {p : fk} {cs : List Value} {t : TypeId} (h : fM B w mb nm l sm only A A2 P P2 va vb vp vq Af nf cf wr) (h1 : css.length = P2.length)
    (h2 : ∀ (i : Nat) (a : fk) (cs : List Value), P2[i]? = some a → css[i]? = some cs → ez wr (bw B (mb + 5) va vb vp vq) a cs) (h3 : ∀ cs ∈ css, cs.length = 2) (h4 : wr.ownsRow (mb + 5) 118 2 vq P2.length css.flatten)
    (hp : ez wr (bw B (mb + 5) va vb vp vq) p cs) (hcs : cs.length = 2) (ha : bg (mb + 5) 118 2 vq (wr.alloc (.cells cs.toArray t)) (P2.length + 1) (css.flatten ++ cs) v' w9) :
    fM B w mb nm l sm only A A2 P (P2 ++ [p]) va vb vp v' Af nf cf (w9.setCell ⟨mb + 4, 0, none⟩ v') := by
 have hlo := h.lo;have hBw := h.hB;obtain ⟨g1, g2, g3, g4⟩ := h.app h4 (by decide) (by decide) (by decide) (by decide) ha;have hk : ag wr (bw B (mb + 5) va vb vp vq) wr (bw B (mb + 5) va vb vq vp) := ag.refl (fun _ h => h.rJ);have hk2 : ag w9 (bw B (mb + 5) va vb v' vp) w9 (bw B (mb + 5) va vb vp v') := ag.refl (fun _ h => h.rJ)
 refine ⟨hBw, g1.set (by omega) (by omega), (cQ.xF (by omega) h.ry.rJ h1 (fun i a cs x y => (h2 i a cs x y).keep hk) h3 h4 (hp.keep hk) hcs ha).rJ.set (by omega) (by omega), ⟨aj g2.1 (by omega), aj g2.2.1 (by omega), aj g2.2.2.1 (by omega), ?_⟩, by simpa using g4, hlo, g3.KJ (by omega),
   ((h.set.keep (hk.trans (sG (by omega) h4 ha))).keep hk2).keep (mS (by omega) (by omega))⟩
 exact g2.2.2.2.put 0 _
theorem fM.DZ {css : List (List Value)} {r : eB} {cs : List Value} {t : TypeId} (h : fM B w mb nm l sm only A A2 P P2 va vb vp vq Af nf cf wr) (h1 : css.length = A.length)
    (h2 : ∀ (i : Nat) (a : eB) (cs : List Value), A[i]? = some a → css[i]? = some cs → eJ wr (bw B (mb + 5) va vb vp vq) a cs) (h3 : ∀ cs ∈ css, cs.length = 7) (h4 : wr.ownsRow (mb + 5) 121 7 va A.length css.flatten)
    (hp : eJ wr (bw B (mb + 5) va vb vp vq) r cs) (hcs : cs.length = 7) (ha : bg (mb + 5) 121 7 va (wr.alloc (.cells cs.toArray t)) (A.length + 1) (css.flatten ++ cs) v' w9) :
    fM B w mb nm l sm only (A ++ [r]) A2 P P2 v' vb vp vq Af nf cf (w9.setCell ⟨mb + 1, 0, none⟩ v') := by
 have hlo := h.lo;have hBw := h.hB;obtain ⟨g1, g2, g3, g4⟩ := h.app h4 (by decide) (by decide) (by decide) (by decide) ha;refine ⟨hBw, g1.set (by omega) (by omega), (cQ.DZ (by omega) h.ry h1 h2 h3 h4 hp hcs ha).set (by omega) (by omega), ⟨?_, aj g2.2.1 (by omega), aj g2.2.2.1 (by omega), aj g2.2.2.2 (by omega)⟩, by simpa using g4, hlo, g3.KJ (by omega), (h.set.keep (mQ (by omega) h4 ha)).keep (mS (by omega) (by omega))⟩;exact g2.1.put 0 _
theorem fM.OT {css : List (List Value)} {r : eB} {cs : List Value} {t : TypeId} (h : fM B w mb nm l sm only A A2 P P2 va vb vp vq Af nf cf wr) (h1 : css.length = A2.length)
    (h2 : ∀ (i : Nat) (a : eB) (cs : List Value), A2[i]? = some a → css[i]? = some cs → eJ wr (bw B (mb + 5) va vb vp vq) a cs) (h3 : ∀ cs ∈ css, cs.length = 7) (h4 : wr.ownsRow (mb + 5) 121 7 vb A2.length css.flatten)
    (hp : eJ wr (bw B (mb + 5) va vb vp vq) r cs) (hcs : cs.length = 7) (ha : bg (mb + 5) 121 7 vb (wr.alloc (.cells cs.toArray t)) (A2.length + 1) (css.flatten ++ cs) v' w9) :
    fM B w mb nm l sm only A (A2 ++ [r]) P P2 va v' vp vq Af nf cf (w9.setCell ⟨mb + 2, 0, none⟩ v') := by
 have hlo := h.lo;have hBw := h.hB;obtain ⟨g1, g2, g3, g4⟩ := h.app h4 (by decide) (by decide) (by decide) (by decide) ha;have hk : ag wr (bw B (mb + 5) va vb vp vq) wr (bw B (mb + 5) vb va vp vq) := ag.refl (fun _ h => h.uU);have hk2 : ag w9 (bw B (mb + 5) v' va vp vq) w9 (bw B (mb + 5) va v' vp vq) := ag.refl (fun _ h => h.uU)
 refine ⟨hBw, g1.set (by omega) (by omega), (cQ.DZ (by omega) h.ry.uU h1 (fun i a cs x y => (h2 i a cs x y).keep hk) h3 h4 (hp.keep hk) hcs ha).uU.set (by omega) (by omega), ⟨aj g2.1 (by omega), ?_, aj g2.2.2.1 (by omega), aj g2.2.2.2 (by omega)⟩, by simpa using g4, hlo, g3.KJ (by omega),
   ((h.set.keep (hk.trans (mQ (by omega) h4 ha))).keep hk2).keep (mS (by omega) (by omega))⟩
 exact g2.2.1.put 0 _
theorem fM.close {Dn Cb : Value} {A' Yq : List eB} {P' Yr : List fk} (h : fM B w mb nm l sm only A A2 P P2 va vb vp vq Af nf cf wr) (tK : cQ B (mb + 5) A' Yq P' Yr (.slice none 0 0) (.slice none 0 0) Dn Cb w2)
    (hv : iw (mb + 1) (mb + 2) (mb + 3) (mb + 4) (.slice none 0 0) (.slice none 0 0) Dn Cb w2) (hb : BU (mb + 1) (mb + 2) (mb + 3) (mb + 4) vp vq wr w2)
    (hg1 : ∀ k, Dn.ownBlock = some k → vp.ownBlock = some k ∨ wr.heap.size ≤ k) (Bf : ∀ k, Cb.ownBlock = some k → vq.ownBlock = some k ∨ wr.heap.size ≤ k) :
    fM B w mb nm l sm only A' Yq P' Yr (.slice none 0 0) (.slice none 0 0) Dn Cb Af nf cf w2 := by
 have hlo := h.lo;have hBw := h.hB;have hsz := h.sz;obtain ⟨_, _, r3, r4⟩ := h.ry.rows;obtain ⟨b1, b2, b3, b4, b5⟩ := hb;have oF : ∀ k, k < mb + 1 → w2.heap[k]? = wr.heap[k]? := fun k hk => b5 k (by omega) (by omega) (by omega) (by omega) (by omega) (fun e => by have := (r3 k e).1; omega) (fun e => by have := (r4 k e).1; omega);have hB : Below w.heap.size wr w2 := ⟨b1, b2, b3, b4, fun k hk => oF k (by omega)⟩;refine ⟨hBw, fo.keep (fun b (hb : b < B) hl => ⟨oF b (by omega), hb, Nat.lt_of_lt_of_le hl b4⟩) (oF mb (by omega)) h.env, tK, hv, Nat.le_trans hsz b4, hlo, ⟨(oF _ (by omega)).trans h.res.1, (oF _ (by omega)).trans h.res.2.1, (oF _ (by omega)).trans h.res.2.2.1, h.res.2.2.2.trans hB⟩, h.set.keep ?_⟩;intro b hb hl;rcases hb with hb | ⟨hb, h1, h2, h3, h4⟩;exact ⟨oF b (by omega), .inl hb, Nat.lt_of_lt_of_le hl b4⟩;refine ⟨b5 b hl (by omega) (by omega) (by omega) (by omega) h3 h4, .inr ⟨hb, by simp [Value.ownBlock], by simp [Value.ownBlock], fun e => ?_, fun e => ?_⟩, Nat.lt_of_lt_of_le hl b4⟩
 ·rcases hg1 b e with e | e;exact h3 e;omega
 rcases Bf b e with e | e;exact h4 e;omega
theorem BU.ey {ga gb gp gq g : Nat} {t : TypeId} {cs : Array Value} (h : BU ga gb gp gq vp vq wr w2) (hb : au wr g t cs) (h1 : g ≠ ga) (h2 : g ≠ gb) (h3 : g ≠ gp) (h4 : g ≠ gq) (h5 : vp.ownBlock ≠ some g) (h6 : vq.ownBlock ≠ some g) : au w2 g t cs :=
  (h.2.2.2.2 g hb.lt h1 h2 h3 h4 h5 h6).trans hb
theorem cQ.YF {lo : Nat} (h : cQ B lo A A2 P P2 va vb vp vq wr) {g : Nat} {t : TypeId} {cs : Array Value} (hb : au wr g t cs) (ht : t ≠ 118) : vp.ownBlock ≠ some g ∧ vq.ownBlock ≠ some g := by
 obtain ⟨_, _, ⟨_, _, _, _, o3⟩, ⟨_, _, _, _, o4⟩, _⟩ := h;exact ⟨ur o3 hb ht, ur o4 hb ht⟩
end
theorem vX {l : List ay} (h : ∀ p ∈ l, dm p = 0) (k : Nat) : ∀ s set, fD (l.take k) s = some set → set.length ≤ 200 := by
 intro s set;have h2 : ∀ p ∈ l.take k, dm p = 0 := fun p hp => h p (List.mem_of_mem_take hp);generalize l.take k = m at h2 ⊢;induction m with
 | nil => intro e; cases e
 | cons p m ih =>
  intro e;rw [fD] at e;by_cases hp : p.kind = 1 ∧ p.name = s
  ·rw [if_pos hp] at e;injection e with e;subst e;rcases fB (h2 p (by simp)) with ⟨_, _, h3⟩ | ⟨h1, _⟩ | ⟨h1, _⟩ | ⟨h1, _⟩;exact nx h3
   ·rw [hp.1] at h1; cases h1
   ·rw [hp.1] at h1; cases h1
   rw [hp.1] at h1; cases h1
  rw [if_neg hp] at e;exact ih (fun q hq => h2 q (by simp [hq])) e
theorem Me {cs : List Value} (h : cs.length = 7) : ∃ u0 u1 u2 u3 u4 u5 u6, cs = [u0, u1, u2, u3, u4, u5, u6] := by
 match cs, h with
 | [u0, u1, u2, u3, u4, u5, u6], _ => exact ⟨_, _, _, _, _, _, _, rfl⟩
theorem xH (w : World) (X : Nat → Prop) (nm : ByteArray) : ez w X ⟨nm, []⟩ [.string nm, .slice none 0 0] :=
  ⟨_, rfl, none, 0, 0, rfl, ⟨[], rfl, rfl, by simp, by simp, rfl, fun h => absurd h (Nat.lt_irrefl 0)⟩, Nat.zero_le _⟩
theorem vO {B lo g : Nat} {va vb vp vq : Value} (h1 : ∀ b, va.ownBlock = some b → b < g) (h2 : ∀ b, vb.ownBlock = some b → b < g) (h3 : ∀ b, vp.ownBlock = some b → b < g) (h4 : ∀ b, vq.ownBlock = some b → b < g) (hg : lo ≤ g) : ∀ b, Fr B g b → bw B lo va vb vp vq b := by
 intro b hb;rcases hb with hb | hb;exact .inl hb;exact .inr ⟨by omega, fun e => by have := h1 b e; omega, fun e => by have := h2 b e; omega, fun e => by have := h3 b e; omega, fun e => by have := h4 b e; omega⟩
end Go.Proofs.YthnhbcohfoodlaaGreatDoor
namespace Go.Proofs.YthnhbcohfoodlaaGreatDoor
open Go.RowKit Go.Maps
theorem EJ {l : List ay} (h : ∀ p ∈ l, dm p = 0) (back : Bool) : ∀ k s, dz back l k = .ok s → s.only.length ≤ 200 := by
 intro k;induction k with
 | zero => intro s e; rw [dz] at e; cases e; simp
 | succ k ih =>
  intro s e;cases h0 : dz back l k with
  | error e' => rw [dz, h0] at e; cases e
  | ok t =>
   cases hp : l[k]? with
   | none =>
    rw [dz, h0] at e;simp only [hp] at e;cases e;exact ih _ h0
   | some p =>
    rw [kj h0 hp] at e;have ht := ih _ h0;unfold iH at e;by_cases k1 : p.kind = 1
    ·rw [if_pos k1] at e;cases hl : fD (l.take k) p.name with
     | some x => rw [hl] at e; cases e
     | none => rw [hl] at e; cases e; exact ht
    rw [if_neg k1] at e;by_cases k3 : p.kind = 3
    ·rw [if_pos k3] at e;by_cases hs : t.some? = true
     ·rw [if_pos hs] at e; cases e
     rw [if_neg hs] at e;cases e;rcases fB (h p (List.mem_of_getElem? hp)) with ⟨h1, _⟩ | ⟨_, h3⟩ | ⟨h1, _⟩ | ⟨h1, _⟩;exact absurd h1 k1;exact nx h3
     ·rw [k3] at h1; cases h1
     rw [k3] at h1; cases h1
    rw [if_neg k3] at e;by_cases k4 : p.kind = 4
    ·rw [if_pos k4] at e;cases e;exact ht
    rw [if_neg k4] at e;cases hx : eM (l.take k) p.left p.right with
    | none => rw [hx] at e; cases e
    | some x =>
     cases hy : eM (l.take k) p.right p.left with
     | none => rw [hx, hy] at e; cases e
     | some y =>
      rw [hx, hy] at e;injection e with e;subst e;by_cases d : (back = true ∧ p.dir = 1) ∨ (back = false ∧ p.dir = 2)
      ·rw [if_pos d]; exact ht
      rw [if_neg d]; exact ht
section
variable {B : Nat} {w wr w2 : World} {mb nm : Nat} {l : List ay} {sm : Bool} {only : af} {A A2 : List eB} {P Q : List fk} {va vb vp : Value} {Aq Af : Option Addr} {kq nf cf : Nat}
theorem Cl {X : Nat → Prop} {css : List (List Value)} (h1 : css.length = Q.length) (h2 : ∀ (i : Nat) (a : fk) (cs : List Value), Q[i]? = some a → css[i]? = some cs → ez wr X a cs) :
    ∀ cs ∈ css, ∃ s A m c, cs = [.string s, .slice A m c] := by
 intro cs hc;obtain ⟨i, hi⟩ := List.getElem?_of_mem hc;have hlt := (List.getElem?_eq_some_iff.1 hi).1;obtain ⟨a, ha⟩ : ∃ a, Q[i]? = some a := ⟨_, List.getElem?_eq_getElem (by omega)⟩;obtain ⟨u, rfl, A, n, c, rfl, _⟩ := h2 i a cs ha hi;exact ⟨_, _, _, _, rfl⟩
theorem fM.reverse (h : fM B w mb nm l sm only A A2 P Q va vb vp (.slice Aq Q.length kq) Af nf cf wr) (hq : Q.length ≤ 1000) :
    Calls Tryz.prog 125 #[.slice Aq Q.length kq] wr fun e w' => e = .returned (.tuple #[]) ∧ fM B w mb nm l sm only A A2 P Q.reverse va vb vp (.slice Aq Q.length kq) Af nf cf w' := by
 by_cases h0 : Q.length = 0
 ·have hQ : Q = [] := List.eq_nil_of_length_eq_zero h0;subst hQ;refine (rG Aq kq wr).mono ?_;rintro e w' ⟨rfl, rfl⟩;exact ⟨rfl, h⟩
 have hlo := h.lo;have hBw := h.hB;have tK := h.ry;obtain ⟨⟨ca, a1, a2, a3, a4⟩, ⟨cb, b1, b2, b3, b4⟩, ⟨cp, p1, p2, p3, p4⟩, ⟨css, q1, q2, q3, q4⟩, e1, e2⟩ := tK;obtain ⟨g, c, hv, _, hg1, Bf⟩ := vQ q4 (by omega);injection hv with hv _ Bz;subst hv Bz;refine (zV (mb + 5) g Q.length kq css wr (by omega) hq q1 (Cl q1 q2) q4).mono ?_;rintro e w' ⟨rfl, ho, wR⟩;have hK : ag wr (bw B (mb + 5) va vb vp (.slice (some ⟨g, 0, none⟩) Q.length kq)) w' (bw B (mb + 5) va vb vp (.slice (some ⟨g, 0, none⟩) Q.length kq)) := by
  intro b hb hl;have hne : b ≠ g := by
   rcases hb with hb | hb;omega;intro e; exact hb.2.2.2.2 (by rw [e]; rfl)
  exact ⟨wR.block b hl (fun e => hne (by injection e)), hb, Nat.lt_of_lt_of_le hl wR.size⟩
 have cR : ∀ k, k < mb + 5 → w'.heap[k]? = wr.heap[k]? := fun k hk => wR.block k (by have := h.sz; omega) (fun e => by injection e with e; omega);have kv : ∀ {t : TypeId} {sz n : Nat} {v : Value} {xs : List Value}, v.ownBlock ≠ some g → wr.ownsRow (mb + 5) t sz v n xs → w'.ownsRow (mb + 5) t sz v n xs := by
  intro t sz n v xs hne ho;exact World.ownsRow.kept ho wR (.inr hne)
 have na : va.ownBlock ≠ some g := fun e => by
  rcases a4.2 with ⟨hv, _⟩ | ⟨g', cap, cur, hv, _, hg, _⟩
  ·rw [hv] at e; simp [Value.ownBlock] at e
  rw [hv] at e;simp only [Value.ownBlock, Option.some.injEq] at e;subst e;exact kO q4 hg (by decide) rfl
 have nb : vb.ownBlock ≠ some g := fun e => by
  rcases b4.2 with ⟨hv, _⟩ | ⟨g', cap, cur, hv, _, hg, _⟩
  ·rw [hv] at e; simp [Value.ownBlock] at e
  rw [hv] at e;simp only [Value.ownBlock, Option.some.injEq] at e;subst e;exact kO q4 hg (by decide) rfl
 have np : vp.ownBlock ≠ some g := fun e => e2 g e rfl
 refine ⟨rfl, ⟨hBw, fo.keep (fun b (hb : b < B) hl => ⟨cR b (by omega), hb, Nat.lt_of_lt_of_le hl wR.size⟩) (cR mb (by omega)) h.env,
   ⟨⟨ca, a1, fun i a cs x y => (a2 i a cs x y).keep hK, a3, kv na a4⟩, ⟨cb, b1, fun i a cs x y => (b2 i a cs x y).keep hK, b3, kv nb b4⟩, ⟨cp, p1, fun i a cs x y => (p2 i a cs x y).keep hK, p3, kv np p4⟩, ⟨css.reverse, by simp [q1], ?_, fun cs hc => q3 cs (List.mem_reverse.1 hc), by rw [List.length_reverse]; exact ho⟩, e1, e2⟩,
   ⟨(cR _ (by omega)).trans h.v4.1, (cR _ (by omega)).trans h.v4.2.1, (cR _ (by omega)).trans h.v4.2.2.1, (cR _ (by omega)).trans h.v4.2.2.2⟩, Nat.le_trans h.sz wR.size, hlo,
   ⟨(cR _ (by omega)).trans h.res.1, (cR _ (by omega)).trans h.res.2.1, (cR _ (by omega)).trans h.res.2.2.1, h.res.2.2.2.trans ⟨wR.os, wR.tape, wR.output, wR.size, fun k hk => cR k (by omega)⟩⟩, h.set.keep hK⟩⟩
 intro i a cs x y;have hi : i < Q.length := by
  have := (List.getElem?_eq_some_iff.1 x).1;simpa using this
 rw [List.getElem?_reverse hi] at x;rw [List.getElem?_reverse (by omega), q1] at y;exact (q2 _ a cs x y).keep hK
def X3 (B g : Nat) (b : Nat) : Prop := b < B ∨ g + 3 ≤ b
theorem fM.read (h : fM B w mb nm l sm only A A2 P Q va vb vp (.slice Aq Q.length kq) Af nf cf wr) (hp : P.length ≤ maxLen) (hq : Q.length ≤ maxLen) :
    js wr (X3 B w.heap.size) only (.slice Af nf cf) ∧ kM wr (X3 B w.heap.size) P vp ∧ kM wr (X3 B w.heap.size) Q (.slice Aq Q.length kq) := by
 have hlo := h.lo;have hBw := h.hB;have hK : ag wr (bw B (mb + 5) va vb vp (.slice Aq Q.length kq)) wr (X3 B w.heap.size) := ag.refl (fun b hb => by
  rcases hb with hb | hb;exact .inl hb;exact .inr (by omega))
 obtain ⟨_, _, r3, r4⟩ := h.ry.rows;obtain ⟨Ap, kp, rfl, _⟩ := h.ry.2.2.1.form;exact ⟨h.set.keep hK, ⟨Ap, P.length, kp, rfl, dc.done h.ry.2.2.1 (fun _ _ => ez.keep hK) (fun b hb => .inr (by have := (r3 b hb).1; omega)), hp⟩, ⟨Aq, Q.length, kq, rfl, dc.done h.ry.2.2.2.1 (fun _ _ => ez.keep hK) (fun b hb => .inr (by have := (r4 b hb).1; omega)), hq⟩⟩
end
theorem jx {w : World} {B s g i : Nat} {u : Value} (h0 : B ≤ g) (h2 : g < s + 3) : ag w (X3 B s) (w.setCell ⟨g, i, none⟩ u) (X3 B s) :=
  ag.setCell u (fun b hb => by rcases hb with h | h <;> dsimp only <;> omega) (fun _ h _ => h)
theorem Jk {B lo : Nat} {l : List ay} {W W' : World} {X : Nat → Prop} {sm : Bool} {only : af} {P Q : List fk} {u1 u2 v1 v2 : Value} (h1 : ct false l = (⟨sm, only, P⟩, (0, 0))) (h2 : ct true l = (⟨sm, only, Q⟩, (0, 0)))
    (hs : js W X only u1) (hp : kM W X P u2) (ht : js W X only v1) (hq : kM W X Q v2) (hk : ag W X W' (Fr B lo)) :
    qy B lo W' l (.returned (.tuple #[.agg #[.bool sm, u1, u2], .agg #[.bool sm, v1, v2], .agg #[.int .i64 0, .int .i64 0]])) :=
  ⟨[.bool sm, u1, u2], [.bool sm, v1, v2], rfl, rfl, by rw [h1], by rw [h1]; exact ⟨_, _, rfl, hs.keep hk, hp.keep hk⟩, by rw [h2]; exact ⟨_, _, rfl, ht.keep hk, hq.keep hk⟩⟩
end Go.Proofs.YthnhbcohfoodlaaGreatDoor
namespace Go.Proofs.YthnhbcohfoodlaaGreatDoor
open Go.RowKit
def NV (w : World) (s : af) (out i : Value) (wr : World) : Prop :=
  ∃ j : Nat, j ≤ s.length ∧ i = .int .i64 ((2 * j : Nat) : Int) ∧ wr.ownsRow w.heap.size 74 2 out j (ah (s.take j)) ∧ Below w.heap.size w wr
theorem CV (b off c : Nat) (s : af) (N : Nat) (w : World) (hN : N = 2 * s.length) (hn : N ≤ 1000) (hb : b < w.heap.size) (hr : ∀ j u, (ah s)[j]? = some u → w.cell? ⟨b, off + j, none⟩ = some u) :
    Calls Tryz.prog 161 #[.slice (some ⟨b, off, none⟩) N c] w (cY w s 1000) := by
 obtain ⟨i0, hi, y0, y1, y2⟩ := info_parts jc;have HR := Lib.hid hr;have Sn := Lib.hid hN;clear hr hN;go_enter Tryz.func161, Tryz.ntmps161;go_wp2_with fail;go_loopw [3, 4] (NV w s) (fun _ i _ => N - (intOf i).toNat);(case atStart => exact ⟨0, Nat.zero_le _, rfl, World.ownsRow_nil _ _ _ _, Below.refl _ _⟩);obtain ⟨j, hj, rfl, hown, cR⟩ := hrel;have hz := cR.size;obtain ⟨Av, cv, rfl, tD⟩ := aT hown;by_cases hlt : j < s.length
 ·have aaN : 2 * j + 1 < N := (by have := Sn.out; omega);have Vb : j + 1 ≤ 1000 := (by have := Sn.out; omega);obtain ⟨⟨x, y⟩, hx⟩ : ∃ z, s[j]? = some z := ⟨_, List.getElem?_eq_getElem hlt⟩;obtain ⟨q0, q1⟩ := jC s j x y hx;rw [Nat.mul_comm j 2] at q0 q1;have d0 := (cR.cell (p := ⟨b, off + 2 * j, none⟩) hb).trans (HR.out _ _ q0);have d1 := (cR.cell (p := ⟨b, off + (2 * j + 1), none⟩) hb).trans (HR.out _ _ q1);have HT := Lib.hid (show s.take (j + 1) = s.take j ++ [(x, y)] by rw [List.take_add_one, hx]; rfl);have uQ := Lib.hid (World.ownsRow.alloc hown (.cells #[.int .i32 x, .int .i32 y] 74));have cy := Lib.hid (cR.alloc hz (.cells #[.int .i32 x, .int .i32 y] 74));have HN := Lib.hid (Rd.new wr 74 2 1 [.int .i32 x, .int .i32 y] rfl);generalize hm : 2 * j = m at *;have HM := Lib.hid hm;clear hx q0 q1 hown cR hm;have hg : decide ((m : Int) < (N : Int)) = true := decide_eq_true (by omega);have hw1 : IntKind.i64.wrap ((m : Int) + 1) = ((m + 1 : Nat) : Int) := (by rw [wrap_small _ (by omega) (by omega)]; omega);have k0 : (0 : Int) ≤ (m : Int) := (by omega);have k1 : (m : Int) < (N : Int) := (by omega);have k2 : (0 : Int) ≤ (m : Int) + 1 := (by omega);have k3 : (m : Int) + 1 < (N : Int) := (by omega);go_upto_region 5 with fail;refine aR (S := (fun w' => w'.cell? ⟨b, off + m, none⟩ = some (.int .i32 x) ∧ w'.cell? ⟨b, off + (m + 1), none⟩ = some (.int .i32 y))) [4, 9] (by kernel_rfl) ⟨d0, d1⟩ (fun an => ?_);apply tp 0 11 rfl (by kernel_rfl) (fun _ _ _ h => h) (by rfl)
  ·intro wq _;go_simp;(try with_reducible rfl)
  (try simp only [zp, za, z0, zs]);apply tp 1 12 rfl (by kernel_rfl) (fun _ _ _ h => h) (by rfl)
  ·intro wq _;go_simp;(try with_reducible rfl)
  (try simp only [zp, za, z0, zs]);apply tp 2 13 rfl (by kernel_rfl) (fun _ _ _ h => h) (by rfl)
  ·intro wq _;go_simp;(try with_reducible rfl)
  (try simp only [zp, za, z0, zs]);apply tp 3 14 rfl (by kernel_rfl) (fun _ _ _ h => h) (by rfl)
  ·intro wq _;go_simp;(try with_reducible rfl)
  (try simp only [zp, za, z0, zs]);apply tt 4 15 rfl (by kernel_rfl) (fun _ _ _ h => h) (by rfl) (by assumption)
  ·intro wq aX;(try dsimp only at aX);go_simp;(try with_reducible rfl)
  (try simp only [zp, za, z0, zs]);apply tp 5 16 rfl (by kernel_rfl) (fun _ _ _ h => h) (by rfl)
  ·intro wq _;go_simp;(try with_reducible rfl)
  (try simp only [zp, za, z0, zs]);apply tp 6 17 rfl (by kernel_rfl) (fun _ _ _ h => h) (by rfl)
  ·intro wq _;go_simp;(try with_reducible rfl)
  (try simp only [zp, za, z0, zs]);apply tp 7 18 rfl (by kernel_rfl) (fun _ _ _ h => h) (by rfl)
  ·intro wq _;go_simp;(try with_reducible rfl)
  (try simp only [zp, za, z0, zs]);apply tp 8 19 rfl (by kernel_rfl) (fun _ _ _ h => h) (by rfl)
  ·intro wq _;go_simp;(try with_reducible rfl)
  (try simp only [zp, za, z0, zs]);apply tt 9 20 rfl (by kernel_rfl) (fun _ _ _ h => h) (by rfl) (by assumption)
  ·intro wq aX;(try dsimp only at aX);go_simp;(try with_reducible rfl)
  (try simp only [zp, za, z0, zs]);apply tp 10 21 rfl (by kernel_rfl) (fun _ _ _ h => h) (by rfl)
  ·intro wq _;go_simp;(try with_reducible rfl)
  (try simp only [zp, za, z0, zs]);refine aY (i := 11) (o := ⟨some 22, _, _, _, _, _⟩) (by kernel_rfl) rfl (by kernel_rfl) (fun K hK => ?_);go_simp;(try dsimp only);refine hK.out _ _ ?_;clear hK K;(try simp only [zp, za, z0, zs]);refine aY (i := 12) (o := ⟨some 23, _, _, _, _, _⟩) (by kernel_rfl) rfl (by kernel_rfl) (fun K hK => ?_);refine eV _ rfl (.tmp 11) (.tmp 22) 22 rfl w.heap.size 74 i0 _ 2 8 Tryz.underlying22 hi y0 y1 y2 rfl (by decide) _ _ _ rfl uQ.out (wr.heap.size + 1) (some ⟨wr.heap.size, 0, none⟩) 1 1 [.int .i32 x, .int .i32 y] rfl HN.out (lB _ _) (by simp only [maxLen]; omega) (by omega) cy.out.size ?_;intro v' w9 aB;(try dsimp only);refine hK.out _ _ ?_;clear hK K;have iR := Lib.hid ((gX cy.out).trans (aB.below (gX cy.out).size uQ.out));have kB := Lib.hid (show w9.ownsRow w.heap.size 74 2 v' (j + 1) (ah (s.take (j + 1))) by rw [HT.out, fX]; exact aB.own);clear aB;(try simp only [zp, za, z0, zs]);apply tp 13 3 rfl (by kernel_rfl) (fun _ _ _ h => h) (by rfl)
  ·intro wq _;go_simp;(try with_reducible rfl)
  (try simp only [zp, za, z0, zs]);refine cL (by kernel_rfl) ?_ _;go_simp;go_wp2_with fail;exact ⟨⟨j + 1, by omega, by rw [show ((2 * (j + 1) : Nat) : Int) = (m : Int) + 2 by have := HM.out; omega], kB.out, iR.out⟩, by simp [intOf]; omega⟩
 obtain rfl : j = s.length := (by omega);have HF := Lib.hid (show wr.ownsRow w.heap.size 74 2 (.slice Av s.length cv) s.length (ah s) by have := hown; rwa [List.take_of_length_le (Nat.le_refl _)] at this);generalize hm : 2 * s.length = m at *;have hg : decide (m < N) = false := decide_eq_false (by have := Sn.out; omega);have tC : s.length ≤ 1000 := (by have := Sn.out; omega);generalize s.length = k at *;clear hown hm;go_wp2_with fail;go_ret;exact ⟨Av, _, cv, rfl, fl.gN HF.out (fun b hb => (bM HF.out hb).1), tC, tD, cR⟩
end Go.Proofs.YthnhbcohfoodlaaGreatDoor
