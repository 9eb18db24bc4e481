/- Typed: what keys leave. The walk of live.Typed: of any keys it returns what typedP tells; the list is in new memory. -/
import Derived.Test.YtfmebbnccjaadaaStrike
namespace Go.Proofs.Ytfmebbnccjaadaa
open Go.RowKit

/-- From a list that was typed on, at key i, over the keys that are left. -/
def typedGo : List Int → Nat → List (Int × Int) → List Int × Int × Int
  | acc, _, [] => (acc, 0, 0)
  | acc, i, k :: ks => if (strikeP acc k.1 k.2).2 = 0 then typedGo (strikeP acc k.1 k.2).1 (i + 1) ks else ([], (strikeP acc k.1 k.2).2, i)
def typedP (ks : List (Int × Int)) : List Int × Int × Int := if ks.length > 500 then ([], 5, 0) else typedGo [] 0 ks

/-- Keys, as cells. -/
def keyCells (l : List (Int × Int)) : List Value := l.flatMap fun k => [.int .i64 k.1, .int .i32 k.2]
theorem keyCells_length (l : List (Int × Int)) : (keyCells l).length = l.length * 2 := by
  induction l with
  | nil => rfl
  | cons x l ih => simp only [keyCells, List.flatMap_cons] at ih ⊢; simp [ih]; omega
theorem keyCells_at (l : List (Int × Int)) (k : Nat) (x y : Int) (hk : l[k]? = some (x, y)) : (keyCells l)[k * 2]? = some (.int .i64 x) ∧ (keyCells l)[k * 2 + 1]? = some (.int .i32 y) := by
  induction l generalizing k with
  | nil => simp at hk
  | cons z l ih =>
    cases k with
    | zero => simp at hk; subst hk; simp [keyCells]
    | succ k =>
      have := ih k (by simpa using hk)
      simp only [keyCells, List.flatMap_cons] at this ⊢
      have e1 : (k + 1) * 2 = k * 2 + 1 + 1 := by omega
      rw [e1]
      simpa using this

def RdK (w : World) (B : Nat) (A : Option Addr) (n : Nat) (l : List (Int × Int)) : Prop := Rd w B 2 A n (keyCells l)
theorem RdK.len {w : World} {B n : Nat} {A : Option Addr} {l : List (Int × Int)} (h : RdK w B A n l) : l.length = n := by
  have := h.1; rw [keyCells_length] at this; omega
theorem RdK.at {w : World} {B n : Nat} {A : Option Addr} {l : List (Int × Int)} (h : RdK w B A n l) {k : Nat} (hk : k < n) :
    ∃ (b off : Nat) (x y : Int), A = some ⟨b, off, none⟩ ∧ b < B ∧ w.cell? ⟨b, off + k * 2, none⟩ = some (.int .i64 x) ∧ w.cell? ⟨b, off + k * 2 + 1, none⟩ = some (.int .i32 y) ∧ l.drop k = (x, y) :: l.drop (k + 1) := by
  obtain ⟨b, off, e, hb, hc⟩ := h.2 (by omega)
  have hl : k < l.length := by rw [h.len]; exact hk
  obtain ⟨h1, h2⟩ := keyCells_at l k l[k].1 l[k].2 (List.getElem?_eq_getElem hl)
  exact ⟨b, off, _, _, e, hb, hc _ _ h1, by rw [Nat.add_assoc]; exact hc _ _ h2, List.drop_eq_getElem_cons hl⟩

def TypedPost (w : World) (p : List Int × Int × Int) (e : Ending) (w' : World) : Prop :=
  ∃ v', e = .returned (.tuple #[v', .agg #[.int .i64 p.2.1, .int .i64 p.2.2]]) ∧ OwnR w' w.heap.size v' p.1 ∧ Below w.heap.size w w'

theorem strike_len (l : List Int) (a b : Int) : (strikeP l a b).1.length ≤ l.length + 1 := by
  unfold strikeP
  repeat' split
  all_goals simp
  all_goals omega

def TypedRel (w : World) (ks : List (Int × Int)) (n : Nat) (v i : Value) (wr : World) : Prop :=
  ∃ (j : Nat) (acc : List Int), j ≤ n ∧ i = .int .i64 j ∧ acc.length ≤ j ∧ OwnR wr (w.heap.size + 1) v acc ∧ typedGo [] 0 ks = typedGo acc j (ks.drop j) ∧
    Blk wr w.heap.size 28 #[.int .i64 0, .int .i64 0] ∧ Below w.heap.size w wr

set_option maxHeartbeats 400000 in
theorem typed_any (A : Option Addr) (n c : Nat) (ks : List (Int × Int)) (w : World) (hn : n ≤ 9223372036854775807) (hk : RdK w w.heap.size A n ks) :
    Calls Try.prog 27 #[.slice A n c] w (TypedPost w (typedP ks)) := by
  have hlen := hk.len
  by_cases h5 : 500 < n
  · have HP : Hid (typedP ks = ([], 5, 0)) := by unfold typedP; rw [if_pos (by omega)]; rfl
    have HK := Lib.hid hk
    clear hk
    have HL := Lib.hid hlen
    clear hlen
    go_enter Try.func27, Try.ntmps27
    go_wp2
    rw [HP.out]
    exact bodyPost_ret (v := .tuple #[.slice none 0 0, .agg #[.int .i64 5, .int .i64 0]]) (by simp [results, Try.results27, go_sem]) rfl ⟨_, rfl, OwnR.nil _ _, (Below.refl _ _).alloc (Nat.le_refl _) _⟩
  · have HP := Lib.hid (show typedP ks = typedGo [] 0 ks by unfold typedP; rw [if_neg (by omega)])
    have HK := Lib.hid hk
    clear hk
    have HL := Lib.hid hlen
    clear hlen
    go_enter Try.func27, Try.ntmps27
    go_wp2
    go_loopw [4, 14] (TypedRel w ks n) (fun _ i _ => n - (intOf i).toNat)
    case atStart => exact ⟨0, [], Nat.zero_le _, rfl, Nat.le_refl _, OwnR.nil _ _, rfl, Blk.new _ _ _, (Below.refl _ _).alloc (Nat.le_refl _) _⟩
    case round =>
      obtain ⟨j, acc, hj, rfl, hacc, hown, hgo, hres, hbel⟩ := hrel
      have hres0 := hres
      by_cases hlt : j < n
      · obtain ⟨b, off, kd, rd, rfl, hab, hc1, hc2, hdrop⟩ := RdK.at HK.out hlt
        have hd1 := (hbel.cell (p := ⟨b, off + j * 2, none⟩) hab).trans hc1
        have hd2 := (hbel.cell (p := ⟨b, off + j * 2 + 1, none⟩) hab).trans hc2
        clear hc1 hc2
        have hz := hbel.size
        have hsl := strike_len acc kd rd
        have hst := strike_any kd rd u4 acc (w.heap.size + 1) (wr.alloc (.cells #[.int .i64 kd, .int .i32 rd] 116)) (by have := hres.lt; simp; omega) (World.ownsRow.alloc hown _) (by omega)
        rw [hdrop, typedGo] at hgo
        dsimp only at hgo
        generalize hsp : strikeP acc kd rd = p at hst hsl hgo
        obtain ⟨l', er⟩ := p
        dsimp only at hsl hgo
        clear hsp hdrop
        have HST := Lib.hid hst
        clear hst
        by_cases he : er = 0
        · rw [if_pos he] at hgo
          subst he
          have HG := Lib.hid hgo
          clear hgo
          have HR := Lib.hid hres
          clear hres
          go_wp2_with fail
          refine HST.out.mono ?_
          rintro e w' ⟨v', rfl, hown', hgr', _⟩
          have hbel' : Below (w.heap.size + 1) (wr.alloc (.cells #[.int .i64 kd, .int .i32 rd] 116)) w' := (Below.refl _ _).grown hgr' (by have := hres0.lt; simp; omega) (fun k hk => (World.ownsRow.lt hown k hk).1)
          go_wp2
          exact ⟨⟨j + 1, l', by omega, by go_num, by omega, hown', HG.out, (HR.out.alloc _).below hbel' (by omega), ((hbel.alloc hz _).trans (hbel'.mono (by omega)))⟩, by simp [intOf]; omega⟩
        · rw [if_neg he] at hgo
          have he2 : (er != 0) = true := by rw [bne_iff_ne]; exact he
          clear he
          have HG := Lib.hid hgo
          clear hgo
          have HR := Lib.hid hres
          clear hres
          go_wp2_with fail
          refine HST.out.mono ?_
          rintro e w' ⟨v', rfl, hown', hgr', _⟩
          have hbel' : Below (w.heap.size + 1) (wr.alloc (.cells #[.int .i64 kd, .int .i32 rd] 116)) w' := (Below.refl _ _).grown hgr' (by have := hres0.lt; simp; omega) (fun k hk => (World.ownsRow.lt hown k hk).1)
          have hR := (HR.out.alloc (.cells #[.int .i64 kd, .int .i32 rd] 116)).below hbel' (by omega)
          have r1 := hR.cell 0
          have r2 := hR.cell 1
          have r3 := hR.frozen 0
          have r4 := hR.frozen 1
          simp at r1 r2
          go_wp2
          rw [HP.out, HG.out]
          refine bodyPost_ret (v := .tuple #[.slice none 0 0, .agg #[.int .i64 er, .int .i64 j]]) (by simp [results, Try.results27, go_sem, r1, r2]) rfl ⟨_, rfl, OwnR.nil _ _, ?_⟩
          exact ((((hbel.alloc hz _).trans (hbel'.mono (by omega))).setCell (by simp) _).setCell (by simp) _)
      · obtain rfl : j = n := by omega
        have r1 := hres.cell 0
        have r2 := hres.cell 1
        have r3 := hres.frozen 0
        have r4 := hres.frozen 1
        simp at r1 r2
        have hgo2 : typedGo [] 0 ks = (acc, 0, 0) := by rw [hgo, List.drop_of_length_le (by rw [HL.out]; omega)]; rfl
        have HG := Lib.hid hgo2
        clear hgo hgo2
        have HR := Lib.hid hres
        clear hres
        go_wp2
        rw [HP.out, HG.out]
        refine bodyPost_ret (v := .tuple #[u4, .agg #[.int .i64 0, .int .i64 0]]) (by simp [results, Try.results27, go_sem, r1, r2]) rfl ⟨_, rfl, ?_, ?_⟩
        · exact own_mono (ownsRow_setCell_below (ownsRow_setCell_below hown (by simp) _) (by simp) _) (by omega)
        · exact ((hbel.setCell (by simp) _).setCell (by simp) _)

end Go.Proofs.Ytfmebbnccjaadaa
