/- SideWalk + PartP -/
import Derived.Test.YthnhbcohfoodlaaGreatDoorZq10
import Derived.Test.YthnhbcohfoodlaaGreatDoorZq6
set_option maxHeartbeats 3200000
set_option maxRecDepth 100000
namespace Go.Proofs.YthnhbcohfoodlaaGreatDoor
open Go.RowKit
def MZ (W : World) (s : bp) (i : Value) (wr : World) : Prop :=
  ∃ j : Nat, j ≤ 3 ∧ i = .int .i64 j ∧ eW [s.before, s.source, s.after] = eW ([s.before, s.source, s.after].drop j) ∧ Below W.heap.size W wr
theorem all_cons (l : List aE) (r : List (List aE)) : eW (l :: r) = if cz l = 0 then eW r else cz l := rfl
theorem Bk (s : bp) (W : World) (A1 A2 A3 : Option Addr) (n1 n2 n3 c1 c2 c3 : Nat) (h1 : bK W W.heap.size A1 n1 s.before) (h2 : bK W W.heap.size A2 n2 s.source) (h3 : bK W W.heap.size A3 n3 s.after) (m1 : n1 ≤ maxLen) (m2 : n2 ≤ maxLen) (m3 : n3 ≤ maxLen) (j : Nat) (hj : j < 3) :
    ∃ (A : Option Addr) (n c : Nat) (l : List aE), (#[.slice A1 n1 c1, .slice A2 n2 c2, .slice A3 n3 c3] : Array Value)[j]? = some (.slice A n c) ∧ bK W W.heap.size A n l ∧ n ≤ maxLen ∧ [s.before, s.source, s.after].drop j = l :: [s.before, s.source, s.after].drop (j + 1) := by
 match j, hj with
 | 0, _ => exact ⟨A1, n1, c1, s.before, rfl, h1, m1, rfl⟩
 | 1, _ => exact ⟨A2, n2, c2, s.source, rfl, h2, m2, rfl⟩
 | 2, _ => exact ⟨A3, n3, c3, s.after, rfl, h3, m3, rfl⟩
theorem fM (s : bp) (cW : Bool) (A1 A2 A3 : Option Addr) (n1 n2 n3 c1 c2 c3 : Nat) (w : World) (h1 : bK w w.heap.size A1 n1 s.before) (h2 : bK w w.heap.size A2 n2 s.source) (h3 : bK w w.heap.size A3 n3 s.after) (m1 : n1 ≤ maxLen) (m2 : n2 ≤ maxLen) (m3 : n3 ≤ maxLen) :
    Calls Tryz.prog 118 #[.agg #[.bool s.start, .bool s.fin, .slice A1 n1 c1, .slice A2 n2 c2, .slice A3 n3 c3, .int .i64 s.af], .bool cW] w fun e w' => e = .returned (.int .i64 (aW s cW)) ∧ Below w.heap.size w w' := by
 have o7 := gU.len h2;generalize hcs : (#[.bool s.start, .bool s.fin, .slice A1 n1 c1, .slice A2 n2 c2, .slice A3 n3 c3, .int .i64 s.af] : Array Value) = cs;have aT : Below w.heap.size w (w.alloc (.cells cs 96)) := (Below.refl _ _).alloc (Nat.le_refl _) _;have aU : Below w.heap.size w ((w.alloc (.cells cs 96)).alloc (.cells #[.slice A1 n1 c1, .slice A2 n2 c2, .slice A3 n3 c3] 94)) := aT.alloc aT.size _;have mT : aM ((w.alloc (.cells cs 96)).alloc (.cells #[.slice A1 n1 c1, .slice A2 n2 c2, .slice A3 n3 c3] 94)) w.heap.size 96 cs := (aM.new _ _ _).alloc _;have hk2 : aM ((w.alloc (.cells cs 96)).alloc (.cells #[.slice A1 n1 c1, .slice A2 n2 c2, .slice A3 n3 c3] 94)) (w.heap.size + 1) 94 #[.slice A1 n1 c1, .slice A2 n2 c2, .slice A3 n3 c3] := by
  have := aM.new (w.alloc (.cells cs 96)) 94 #[.slice A1 n1 c1, .slice A2 n2 c2, .slice A3 n3 c3];simpa using this
 have fR := Lib.hid (Bk s _ A1 A2 A3 n1 n2 n3 c1 c2 c3 (aB h1 aU) (aB h2 aU) (aB h3 aU) m1 m2 m3);have hm2 : n2 ≤ 9223372036854775807 := (by unfold maxLen at m2; omega);have HB := Lib.hid aU;have xu := Lib.hid mT;have wN := Lib.hid hk2;clear h1 h2 h3 m1 m2 m3 aT aU mT hk2;subst hcs;go_enter Tryz.func118, Tryz.ntmps118;go_wp2_with fail;generalize hW : ((w.alloc (.cells #[.bool s.start, .bool s.fin, .slice A1 n1 c1, .slice A2 n2 c2, .slice A3 n3 c3, .int .i64 s.af] 96)).alloc (.cells #[.slice A1 n1 c1, .slice A2 n2 c2, .slice A3 n3 c3] 94)) = W at *;clear hW;go_loopw [18] (MZ W s) (fun i _ => 3 - (intOf i).toNat);(case atStart => exact ⟨0, by omega, rfl, rfl, Below.refl _ _⟩);obtain ⟨j, hj, rfl, hall, hb⟩ := hrel;have hz := hb.size;by_cases My : j < 3
 ·obtain ⟨A, n, c, l, hc, hl, hm, hd⟩ := fR.out j My;rw [hd, all_cons l] at hall;have dj : wr.cell? ⟨w.heap.size + 1, j, none⟩ = some (.slice A n c) := by
   rw [(aM.below wN.out hb wN.out.lt).cell j];exact hc
  have ht : decide ((j : Int) < 3) = true := decide_eq_true (by omega);have cn := Lib.hid (gU.len hl);have HL := Lib.hid hl;have hn : n ≤ 9223372036854775807 := (by unfold maxLen at hm; omega);clear hl hc hd hm;by_cases qq : 20 < n
  ·have O3 : cz l = 5 := (by unfold cz; rw [if_pos (by rw [cn.out]; exact qq)]);rw [if_neg (by rw [O3]; decide), O3] at hall;have HV := Lib.hid (show aW s cW = 5 by unfold aW; rw [hall]; rfl);clear hall O3;go_wp2_with fail;go_ret;rw [HV.out];exact ⟨rfl, HB.out.trans (hb.mono HB.out.size)⟩
  have So : cz l = ia l := (by unfold cz; rw [if_neg (by rw [cn.out]; exact qq)]);rw [So] at hall;have HA := Lib.hid hall;clear hall So;go_wp2_with fail;go_loopw [27] (GG W l n) (fun i _ => n - (intOf i).toNat);(case atStart => exact ⟨0, Nat.zero_le _, rfl, rfl, hb⟩);clear hb hz;obtain ⟨k, hk, rfl, bz, hb⟩ := hrel;have hz := hb.size;by_cases hlt : k < n
  ·obtain ⟨a, ha⟩ : ∃ z, l[k]? = some z := ⟨_, List.getElem?_eq_getElem (by rw [cn.out]; exact hlt)⟩;rw [gE ha, ia] at bz;obtain ⟨b, off, A', n', c', rfl, eG, d0, d1, d2, d3, Dj, hn', _, hnm⟩ := qL HL.out ha;have d0 := (hb.cell (p := ⟨b, off + k * 4, none⟩) eG).trans d0;have d1 := (hb.cell (p := ⟨b, off + k * 4 + 1, none⟩) eG).trans d1;have d2 := (hb.cell (p := ⟨b, off + k * 4 + 2, none⟩) eG).trans d2;have d3 := (hb.cell (p := ⟨b, off + k * 4 + 3, none⟩) eG).trans d3;have aT := fun o => hb.alloc hz o;have HI := Lib.hid (fun o => vc a A' n' c' (World.alloc _ o) (by unfold maxLen at hn'; omega) (Rd.more (Rd.below Dj (aT o)) (by simp; omega)));have b8 := Lib.hid aT;clear Dj aT hnm hn';unfold uL at HI;by_cases hi : lB a = 0
   ·rw [if_pos hi] at bz;have HG := Lib.hid bz;clear bz;go_wp2_with fail;refine (HI.out _).mono ?_;rintro e w2 ⟨rfl, aU⟩;rw [hi];have bN := (b8.out _).trans (aU.mono (by simp; omega));have bV := Lib.hid bN;clear aU bN;go_wp2_with fail;exact ⟨⟨k + 1, by omega, by go_num, HG.out, bV.out⟩, by simp [intOf]; omega⟩
   rw [if_neg hi] at bz;have hi2 : (lB a != 0) = true := (by simpa using hi);have Jq := HA.out;rw [bz, if_neg hi] at Jq;have HV := Lib.hid (show aW s cW = lB a by unfold aW; rw [Jq, if_neg hi]);clear bz hi Jq;go_wp2_with fail;refine (HI.out _).mono ?_;rintro e w2 ⟨rfl, aU⟩;have bN := (b8.out _).trans (aU.mono (by simp; omega));have bV := Lib.hid bN;clear aU bN;go_wp2_with fail;go_ret;rw [HV.out];exact ⟨rfl, HB.out.trans (bV.out.mono HB.out.size)⟩
  obtain rfl : k = n := (by omega);rw [List.drop_of_length_le (by rw [cn.out]; omega)] at bz;have Jq := HA.out;rw [bz, if_pos (show ia [] = 0 from rfl)] at Jq;have HG := Lib.hid Jq;clear bz Jq;go_wp2_with fail;exact ⟨⟨j + 1, by omega, by go_num, HG.out, hb⟩, by simp [intOf]; omega⟩
 obtain rfl : j = 3 := (by omega);have ha0 : eW [s.before, s.source, s.after] = 0 := hall;have za := aM.below xu.out hb xu.out.lt;have d3 : wr.cell? ⟨w.heap.size, 3, none⟩ = some (.slice A2 n2 c2) := za.cell 3;have d5 : wr.cell? ⟨w.heap.size, 5, none⟩ = some (.int .i64 s.af) := za.cell 5;have hb0 := HB.out.trans (hb.mono HB.out.size);have HS := Lib.hid (show aW s cW = if s.af < -1 ∨ (n2 : Int) < s.af then 3 else if cW = true ∧ n2 = 0 then 6 else 0 by unfold aW; rw [if_pos ha0, o7]);clear hall ha0 za o7;have gA := Lib.hid hb0;clear hb0;by_cases hc : s.af < -1 ∨ (n2 : Int) < s.af
 ·have HV := Lib.hid (show aW s cW = 3 by rw [HS.out, if_pos hc]);rcases (show s.af < -1 ∨ (-1 ≤ s.af ∧ (n2 : Int) < s.af) by omega) with h | ⟨h, h'⟩
  all_goals
    clear hc
    go_wp2_with fail
    go_ret
    rw [HV.out]
    exact ⟨rfl, gA.out⟩
 have dh : -1 ≤ s.af := (by omega);have dQ : s.af ≤ n2 := (by omega);cases hmust : cW
 ·have HV := Lib.hid (show aW s false = 0 by rw [← hmust, HS.out, if_neg hc, hmust]; simp);subst hmust;clear hc;go_wp2_with fail;go_ret;rw [HV.out];exact ⟨rfl, gA.out⟩
 subst hmust;by_cases h0 : n2 = 0
 ·have HV := Lib.hid (show aW s true = 6 by rw [HS.out, if_neg hc, h0]; simp);have kM : ((n2 : Int) == 0) = true := (by simp; omega);clear hc;go_wp2_with fail;go_ret;rw [HV.out];exact ⟨rfl, gA.out⟩
 have HV := Lib.hid (show aW s true = 0 by rw [HS.out, if_neg hc]; simp [h0]);have kM : ((n2 : Int) == 0) = false := (by simp; omega);clear hc;go_wp2_with fail;go_ret;rw [HV.out];exact ⟨rfl, gA.out⟩
def jg (dir : Int) (left right : bp) : Bool :=
  (dir == 2 || cT right.source) && (dir == 1 || cT left.source) && (dir != 1 || (!fZ right && decide (left.af < 0))) && (dir != 2 || (!fZ left && decide (right.af < 0)))
def aV (dir : Int) (left right : bp) : Int :=
  if dir < 1 ∨ 3 < dir then 1
  else if aW left (dir != 2) = 0 then (if aW right (dir != 1) = 0 then (if jg dir left right = true then 0 else 8) else aW right (dir != 1))
  else aW left (dir != 2)
def gf (p : aZ) : Int :=
  if p.kind = 1 then (if cm p.name = true then cU p.set else 7)
  else if p.kind = 3 then cU p.set
  else if p.kind = 4 then (if gm p.name = true then 0 else 7)
  else if p.kind = 2 then aV p.dir p.left p.right
  else 1
theorem Cb {s : bp} (h : eW [s.before, s.source, s.after] = 0) : s.before.length ≤ 20 ∧ s.source.length ≤ 20 ∧ s.after.length ≤ 20 := by
 simp only [eW] at h;by_cases h1 : cz s.before = 0
 ·rw [if_pos h1] at h;by_cases h2 : cz s.source = 0
  ·rw [if_pos h2] at h;by_cases h3 : cz s.after = 0;exact ⟨jD h1, jD h2, jD h3⟩;rw [if_neg h3] at h; exact absurd h h3
  rw [if_neg h2] at h; exact absurd h h2
 rw [if_neg h1] at h; exact absurd h h1
theorem dc {s : bp} {cW : Bool} (h : aW s cW = 0) : s.before.length ≤ 20 ∧ s.source.length ≤ 20 ∧ s.after.length ≤ 20 := by
 unfold aW at h;by_cases h1 : eW [s.before, s.source, s.after] = 0;exact Cb h1;rw [if_neg h1] at h; exact absurd h h1
end Go.Proofs.YthnhbcohfoodlaaGreatDoor
