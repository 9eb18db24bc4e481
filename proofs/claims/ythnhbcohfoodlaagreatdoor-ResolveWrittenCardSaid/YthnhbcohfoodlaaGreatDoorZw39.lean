/- SortSpan + SetFour + CurSpan -/
import Derived.Test.YthnhbcohfoodlaaGreatDoorShelf2
import Derived.Test.YthnhbcohfoodlaaGreatDoorShelf
import Derived.Test.YthnhbcohfoodlaaGreatDoorZw11
import Derived.Test.YthnhbcohfoodlaaGreatDoorZw31
import Derived.Test.YthnhbcohfoodlaaGreatDoorZw17
import Derived.Test.YthnhbcohfoodlaaGreatDoorZw12
import Derived.Test.YthnhbcohfoodlaaGreatDoorZw36
set_option maxHeartbeats 3200000
set_option maxRecDepth 100000
namespace Go.Proofs.YthnhbcohfoodlaaGreatDoor
open Go.RowKit
def mh (x : Int × Int) : List Value := [.int .i32 x.1, .int .i32 x.2]
def kI (x y : Int × Int) : Int := Lib.compareInt x.1 y.1
theorem yY (x y : Int × Int) : ltOf kI x y = decide (x.1 < y.1) := by
 unfold ltOf kI Lib.compareInt;by_cases h1 : x.1 < y.1
 ·simp [h1]
 by_cases h2 : y.1 < x.1 <;> simp [h1, h2]
theorem LA : Sort.SWO (ltOf kI) where
  irrefl x := by rw [yY]; simp
  trans x y z h1 h2 := by rw [yY] at *; simp at *; omega
  ntrans x y z h1 h2 := by rw [yY] at *; simp at *; omega
theorem DS (x : Int) (w : World) : Calls Tryz.prog 145 #[.int .i32 x] w fun e w' => e = .returned (.bool false) ∧ w' = w := by
 have h : (x != x) = false := (by simp);go_enter Tryz.func145, Tryz.ntmps145;go_wp2_with fail;go_ret;exact ⟨rfl, rfl⟩
theorem Jl (x y : Int) (w : World) : Calls Tryz.prog 92 #[.int .i32 x, .int .i32 y] w fun e w' => e = .returned (.int .i64 (Lib.compareInt x y)) ∧ w' = w := by
 unfold Lib.compareInt;by_cases h1 : x < y
 ·rw [if_pos h1];go_enter Tryz.func92, Tryz.ntmps92;go_wp2_with (go_at_call 145; refine (DS _ _).mono ?_; rintro e w' ⟨rfl, rfl⟩);go_ret;exact ⟨rfl, rfl⟩
 rw [if_neg h1];by_cases h2 : x > y
 ·rw [if_pos h2];go_enter Tryz.func92, Tryz.ntmps92;go_wp2_with (go_at_call 145; refine (DS _ _).mono ?_; rintro e w' ⟨rfl, rfl⟩);go_ret;exact ⟨rfl, rfl⟩
 rw [if_neg h2];go_enter Tryz.func92, Tryz.ntmps92;go_wp2_with (go_at_call 145; refine (DS _ _).mono ?_; rintro e w' ⟨rfl, rfl⟩);go_ret;exact ⟨rfl, rfl⟩
theorem Nv (x y : Int × Int) (W : World) : Calls Tryz.prog 91 #[.agg #[.int .i32 x.1, .int .i32 x.2], .agg #[.int .i32 y.1, .int .i32 y.2]] W fun e w' => e = .returned (.int .i64 (kI x y)) ∧ ∃ q os', w' = Sort.grow (W.drewN q) os' := by
 have IX := fun W' => Jl x.1 y.1 W';unfold kI;generalize Lib.compareInt x.1 y.1 = r at IX ⊢;go_enter Tryz.func91, Tryz.ntmps91;go_wp2_with (go_at_call 92; refine (IX _).mono ?_; rintro e w' ⟨rfl, rfl⟩);go_ret;exact ⟨rfl, 0, _, by rw [Sort.alloc_eq_grow, Sort.alloc_eq_grow, Sort.grow_grow]; rfl⟩
theorem Lc (ey off size : Nat) (w : World) : CmpLays Tryz.prog 91 #[] mh 2 kI ey off size w := fun _ _ _ _ x y => Nv x y _
theorem mR (l : af) (t : Nat) (h : t < l.length * 2) : (ah l)[t]? = some ((mh (l.toArray[t / 2]!))[t % 2]!) := by
 have hk : t / 2 < l.length := (by omega);obtain ⟨⟨x, y⟩, hx⟩ : ∃ z, l[t / 2]? = some z := ⟨_, List.getElem?_eq_getElem hk⟩;obtain ⟨c0, c1⟩ := jC l (t / 2) x y hx;have hg : l.toArray[t / 2]! = (x, y) := by
  rw [getElem!_pos l.toArray (t / 2) (by simpa using hk)];simp only [List.getElem_toArray];exact (List.getElem?_eq_some_iff.1 hx).2
 rw [hg];rcases Nat.mod_two_eq_zero_or_one t with h0 | h0
 ·rw [h0];have e : t = t / 2 * 2 := (by omega);rw [← e] at c0;exact c0
 rw [h0];have e : t = t / 2 * 2 + 1 := (by omega);rw [← e] at c1;exact c1
theorem yZ {l : af} {n : Nat} {d' : Array (Int × Int)} (hn : l.length = n) (hp : Sort.PermIn 0 n l.toArray d') (hs : Sort.SortedIn (ltOf kI) 0 n d') :
    d'.size = n ∧ l.Perm d'.toList ∧ d'.toList.Pairwise (fun a b => a.1 ≤ b.1) := by
 obtain ⟨h1, _, h3⟩ := hp;have hsz : d'.size = n := (by rw [h1]; simpa using hn);have e1 : (d'.extract 0 n).toList = d'.toList := (by rw [← hsz]; simp);have e2 : (l.toArray.extract 0 n).toList = l := (by rw [← hn]; simp);rw [e1, e2] at h3;refine ⟨hsz, h3.symm, List.pairwise_iff_getElem.2 fun i j hi hj hij => ?_⟩;have hi' : i < d'.size := (by simpa using hi);have hj' : j < d'.size := (by simpa using hj);have := hs i j (Nat.zero_le _) hij (by omega);rw [yY, getElem!_pos d' i hi', getElem!_pos d' j hj', decide_eq_false_iff_not] at this;simp only [Array.getElem_toList];omega
theorem oo (w : World) (g m : Nat) (dk : Array (Int × Int)) (os : Array Obj) : bK w g (sortWorldK mh 2 w g 0 m dk os) := by
 unfold sortWorldK Sort.putRowK Sort.putRow Sort.mapBlock Sort.grow Sort.ahead;refine ⟨by simp, rfl, rfl, rfl, fun k hk hne => ?_⟩;simp only;rw [Array.getElem?_append_left (by simpa using hk), Array.getElem?_modify, if_neg (Ne.symm hne)]
theorem Cq (g n c base : Nat) (l : af) (w : World) (hn : n ≤ 100000) (hl : l.length = n) (ho : w.ownsRow base 74 2 (.slice (some ⟨g, 0, none⟩) n c) n (ah l)) :
    Calls Tryz.prog 90 #[.slice (some ⟨g, 0, none⟩) n c, .func (.func 91) #[] #[]] w fun e w' => e = .returned (.tuple #[]) ∧ bK w g w' ∧
      ∃ l', l.Perm l' ∧ l'.Pairwise (fun a b => a.1 ≤ b.1) ∧ kW w' w'.heap.size (some ⟨g, 0, none⟩) n l' := by
 have hg := (bM ho rfl).2;have hH : Sort.HoldsK mh 2 w g 0 l.toArray := by
  intro j hj;rw [Sort.size_flatK] at hj;have hj2 : j < l.length * 2 := (by simpa using hj);rw [Sort.get_flatK _ _ _ _ (by simpa using hj2), Nat.zero_add];refine ⟨?_, ho.frozenAt _⟩;rw [ho.cellAt _ (by omega)];exact mR l j hj2
 have hsz : l.toArray.size = n := (by simpa using hl);have eg : ∀ args w, (callFunc 91 args).run Tryz.prog w = .ok (.enter 91 args) w := enters_of Tryz.func91 (by kernel_rfl) rfl;have IX := AnyQ.slices_SortFunc Tryz.sortSpan 2 Tryz.isAgg74 Tryz.sizeOf74 mh (fun _ => rfl) (fun x v hv => by simp [mh] at hv; rcases hv with rfl | rfl <;> rfl) kI LA 91 #[] g 0 c l.toArray w eg (Lc g 0 _ w) hH hg (by rw [hsz]; omega);rw [hsz] at IX;refine Calls.mono IX ?_;rintro e w' ⟨rfl, d', m, os, hp, hs, rfl⟩;obtain ⟨h1, h2, h3⟩ := yZ hl hp hs;refine ⟨rfl, oo _ _ _ _ _, d'.toList, h2, h3, ⟨by rw [bD]; simp [h1], fun h0 => ⟨g, 0, rfl, Nat.lt_of_lt_of_le hg (oo w g m d' os).1, fun j u hu => ?_⟩⟩⟩;have hj : j < d'.toList.length * 2 := (by have := (List.getElem?_eq_some_iff.1 hu).1; rwa [bD] at this);rw [mR _ j hj] at hu;have hK := holdsK_sortWorldK_c mh 2 w g 0 l.toArray d' m os hH hg (by rw [h1, hsz]);have := (hK j (by rw [Sort.size_flatK]; simpa using hj)).1;rw [Sort.get_flatK _ _ _ _ (by simpa using hj)] at this;rw [this];simpa using hu
theorem JM (w : World) :
    Calls Tryz.prog 90 #[.slice none 0 0, .func (.func 91) #[] #[]] w fun e w' => e = .returned (.tuple #[]) ∧ w' = w := by
 have H1 := Lib.hid (show Calls Tryz.prog 168 #[.slice none 0 0, .int .i64 0, .int .i64 0, .func (.func 91) #[] #[]] w fun e w' => e = .returned (.tuple #[]) ∧ w' = w by
  go_enter Tryz.func168, Tryz.ntmps168;go_wp2_with fail;go_loopw [8] (fun i wr => i = .int .i64 1 ∧ wr = w) (fun _ _ => 0);(case atStart => exact ⟨rfl, rfl⟩);obtain ⟨rfl, rfl⟩ := hrel;go_wp2_with fail;go_end0;exact ⟨rfl, rfl⟩)
 have H2 := Lib.hid (fun (x : Int) => show Calls Tryz.prog 143 #[.slice none 0 0, .int .i64 0, .int .i64 0, .int .i64 x, .func (.func 91) #[] #[]] w fun e w' => e = .returned (.tuple #[]) ∧ w' = w by
  go_enter Tryz.func143, Tryz.ntmps143;go_wp2_with fail;go_loopw [1, 2, 3] (fun a b c wr => a = .int .i64 0 ∧ b = .int .i64 0 ∧ c = .int .i64 x ∧ wr = w) (fun _ _ _ _ => 0);(case atStart => exact ⟨rfl, rfl, rfl, rfl⟩);obtain ⟨rfl, rfl, rfl, rfl⟩ := hrel;go_wp2_with fail;refine H1.out.mono ?_;rintro e w1 ⟨rfl, rfl⟩;go_wp2_with fail;(try simp only [Exit.inBlock, Exit.then]);refine bodyPost_ret (results_none rfl _ _ _) rfl ?_;exact ⟨rfl, rfl⟩)
 have H3 := Lib.hid (show Calls Tryz.prog 144 #[.int .u64 0] w fun e w' => e = .returned (.int .i64 (Lib.bitLen 0 : Nat)) ∧ w' = w from Tryz.bits_Len 0 w (by decide) (by decide));go_enter Tryz.func90, Tryz.ntmps90;go_wp2_with (first | (go_at_call 144; refine H3.out.mono ?_; rintro e w1 ⟨rfl, rfl⟩) | (go_at_call 143; refine (H2.out _).mono ?_; rintro e w1 ⟨rfl, rfl⟩));go_end0;exact ⟨rfl, rfl⟩
def bS (w : World) (r : af × Int) (e : Ending) (w' : World) : Prop := ∃ A' n' c', e = .returned (.tuple #[.slice A' n' c', .int .i64 r.2]) ∧ fl w' (fun b => w.heap.size ≤ b) 2 A' n' (ah r.1) ∧ n' ≤ 200 ∧ n' ≤ c' ∧ Below w.heap.size w w'
theorem bS.uP {w w1 : World} {A : Option Addr} {n c : Nat} {s : af} {e : Ending} {w' : World} (h1 : fl w1 (fun b => w.heap.size ≤ b) 2 A n (ah s)) (hc : n ≤ c) (hb : Below w.heap.size w w1)
    (he : e = .returned (if 200 < n then .tuple #[.slice none 0 0, .int .i64 5] else .tuple #[.slice A n c, .int .i64 0]) ∧ w' = w1) : bS w (th s) e w' := by
 obtain ⟨rfl, rfl⟩ := he;have hl : s.length = n := (by have := h1.1; rw [bD] at this; omega);unfold th;rw [hl];by_cases h : 200 < n
 ·rw [if_pos h, if_pos h];exact ⟨none, 0, 0, rfl, ⟨rfl, fun h => absurd h (by omega)⟩, by omega, by omega, hb⟩
 rw [if_neg h, if_neg h];exact ⟨A, n, c, rfl, h1, by omega, hc, hb⟩
theorem fl.lift {w : World} {X X' : Nat → Prop} {sz n : Nat} {A : Option Addr} {xs : List Value} (h : fl w X sz A n xs) (hX : ∀ b, X b → X' b) : fl w X' sz A n xs := h.keep (ag.refl hX)
def RU (w : World) (n : Nat) (i : Value) (wr : World) : Prop := ∃ j : Nat, j ≤ n ∧ i = .int .i64 j ∧ Below w.heap.size w wr
def Nc (w : World) (l : af) (e : Ending) (w' : World) : Prop := ∃ l', l.Perm l' ∧ l'.Pairwise (fun a b => a.1 ≤ b.1) ∧ bS w (th (ic l')) e w'
theorem KE (A : Option Addr) (n c : Nat) (l : af) (w : World) (hn : n ≤ 1000) (hr : nu l) (hl : kW w w.heap.size A n l) :
    Calls Tryz.prog 50 #[.slice A n c] w (Nc w l) := by
 have bY := Lib.hid hl.len;have HL := Lib.hid hl;have HR := Lib.hid hr;clear hl hr;go_enter Tryz.func50, Tryz.ntmps50;go_wp2_with fail;go_loopw [9] (RU w n) (fun i _ => n - (intOf i).toNat);(case atStart => exact ⟨0, Nat.zero_le _, rfl, Below.refl _ _⟩);obtain ⟨j, hj, rfl, hb⟩ := hrel;have hz := hb.size;by_cases hlt : j < n
 ·obtain ⟨⟨x, y⟩, hx⟩ : ∃ z, l[j]? = some z := ⟨_, List.getElem?_eq_getElem (by rw [bY.out]; exact hlt)⟩;obtain ⟨b, off, rfl, eD, c0, c1⟩ := HL.out.at hx;have d0 := (hb.cell (p := ⟨b, off + j * 2, none⟩) eD).trans c0;have d1 := (hb.cell (p := ⟨b, off + j * 2 + 1, none⟩) eD).trans c1;have hxy := HR.out (x, y) (List.mem_of_getElem? hx);simp only at hxy;have cy := Lib.hid (hb.alloc hz (.cells #[.int .i32 x, .int .i32 y] 74));have g1 : decide (x < 0) = false := decide_eq_false (by omega);have g2 : decide (1114111 < y) = false := decide_eq_false (by omega);have g3 : decide (y < x) = false := decide_eq_false (by omega);clear hx c0 c1 hb;go_wp2_with fail;exact ⟨⟨j + 1, by omega, by go_num, cy.out⟩, by simp [intOf]; omega⟩
 obtain rfl : j = n := (by omega);have Gn := Lib.hid (BO A j c l wr (by omega) ((Rd.below HL.out hb).more hz));have HB := Lib.hid hb;clear hb;go_wp2_with fail;refine Gn.out.mono ?_;rintro e w1 ⟨⟨v, rfl, ho⟩, bt⟩;have cy := Lib.hid (HB.out.trans (bt.mono hz));have uQ := Lib.hid (mN ho hz);clear bt Gn;have Qg := Lib.hid (aT ho);rcases ho.2 with ⟨rfl, hn0⟩ | ⟨g, cap, cur, rfl, hg, hh, Pm⟩
 ·obtain rfl : j = 0 := hn0;have GQ : l = [] := List.eq_nil_of_length_eq_zero bY.out;subst GQ;clear ho Qg;go_wp2_with fail;refine (JM _).mono ?_;rintro e w2 ⟨rfl, rfl⟩;have HM := Lib.hid (rO none 0 0 [] w2 (by omega) (by intro x hx; simp at hx) Rd.nil);go_wp2_with fail;refine HM.out.mono ?_;rintro e w3 ⟨A3, n3, c3, rfl, mB, El, kJ, aJ⟩;have dQ := Lib.hid (cy.out.trans (aJ.mono cy.out.size));have HP := Lib.hid (fun (e : Ending) (w' : World) h => show bS w (th (ic [])) e w' from bS.uP (mB.lift (X' := fun b => w.heap.size ≤ b) (fun _ h => Nat.le_trans cy.out.size h)) kJ dQ.out h);clear mB aJ;go_wp2_with fail;refine (mI A3 n3 c3 w3).mono ?_;rintro e w4 he;obtain ⟨A5, n5, c5, rfl, h5⟩ := HP.out e w4 he;have H5 := Lib.hid h5;clear h5 he HP;go_wp2_with fail;go_ret2;exact ⟨[], List.Perm.nil, List.Pairwise.nil, A5, n5, c5, rfl, H5.out⟩
 have HS := Lib.hid (Cq g j cap w.heap.size l w1 (by omega) bY.out uQ.out);have HGW := Lib.hid (Nat.le_trans hz hg);clear ho Qg Pm hh hg;go_wp2_with fail;refine HS.out.mono ?_;rintro e w2 ⟨rfl, lY, l', hp, LL, hrd⟩;have cE := Lib.hid (cy.out.trans (lY.to cy.out.size HGW.out));have qH := Lib.hid (show nu l' from fun x hx => HR.out x (hp.mem_iff.2 hx));have HP := Lib.hid hp;have OD := Lib.hid LL;have HM := Lib.hid (rO (some ⟨g, 0, none⟩) j cap l' w2 (by omega) qH.out hrd);clear lY hp LL hrd HS;go_wp2_with fail;refine HM.out.mono ?_;rintro e w3 ⟨A3, n3, c3, rfl, mB, El, kJ, aJ⟩;have dQ := Lib.hid (cE.out.trans (aJ.mono cE.out.size));have HT := Lib.hid (fun (e : Ending) (w' : World) h => show bS w (th (ic l')) e w' from bS.uP (mB.lift (X' := fun b => w.heap.size ≤ b) (fun _ h => Nat.le_trans cE.out.size h)) kJ dQ.out h);clear mB aJ;go_wp2_with fail;refine (mI A3 n3 c3 w3).mono ?_;rintro e w4 he;obtain ⟨A5, n5, c5, rfl, h5⟩ := HT.out e w4 he;have H5 := Lib.hid h5;clear h5 he HT;go_wp2_with fail;go_ret2;exact ⟨l', HP.out, OD.out, A5, n5, c5, rfl, H5.out⟩
structure bW (w : World) (A : Option Addr) (n c : Nat) (s : af) : Prop where
  right : aF s
  rd : kW w w.heap.size A n s
  cap : n ≤ c
theorem bW.below {w w' : World} {A : Option Addr} {n c : Nat} {s : af} (h : bW w A n c s) (hb : Below w.heap.size w w') : bW w' A n c s := ⟨h.right, (Rd.below h.rd hb).more hb.size, h.cap⟩
theorem bW.le {w : World} {A : Option Addr} {n c : Nat} {s : af} (h : bW w A n c s) : n ≤ 200 := by have := h.rd.len; have := h.right.size; omega
theorem bW.Og {w : World} {A : Option Addr} {n c : Nat} {s : af} (h : bW w A n c s) : tw w Ds s [.slice A n c] :=
  ⟨_, rfl, A, n, c, rfl, fl.kN h.rd (Nat.le_refl _) (fun _ _ => trivial), by have := h.le; simp only [maxLen]; omega⟩
theorem Hu {w : World} {A : Option Addr} {n c : Nat} {s : af} (h : bW w A n c s) :
    eC (tw (w.alloc (.cells #[.slice A n c] 22)) Ds) (w.alloc (.cells #[.slice A n c] 22)) Ds 1 (some ⟨w.heap.size, 0, none⟩) 1 [s] := by
 have hb := (Below.refl w.heap.size w).alloc (Nat.le_refl _) (.cells #[.slice A n c] 22);refine ⟨[[.slice A n c]], rfl, rfl, ?_, by simp, fl.new 22 [.slice A n c] rfl trivial⟩;intro i a cs ha hc;rcases i with _ | i
 ·simp at ha hc; subst ha hc; exact (h.below hb).Og
 simp at ha
theorem JB {w : World} {A B : Option Addr} {n c m d : Nat} {a b : af} (ha : bW w A n c a) (hb : bW w B m d b) :
    eC (tw (w.alloc (.cells #[.slice A n c, .slice B m d] 22)) Ds) (w.alloc (.cells #[.slice A n c, .slice B m d] 22)) Ds 1 (some ⟨w.heap.size, 0, none⟩) 2 [a, b] := by
 have cR := (Below.refl w.heap.size w).alloc (Nat.le_refl _) (.cells #[.slice A n c, .slice B m d] 22);refine ⟨[[.slice A n c], [.slice B m d]], rfl, rfl, ?_, by simp, fl.new 22 [.slice A n c, .slice B m d] rfl trivial⟩;intro i x cs hx hc;match i with
 | 0 => simp at hx hc; subst hx hc; exact (ha.below cR).Og
 | 1 => simp at hx hc; subst hx hc; exact (hb.below cR).Og
 | i + 2 => simp at hx
theorem vL {w : World} {A : Option Addr} {n c : Nat} {s : af} (h : bW w A n c s) :
    Calls Tryz.prog 49 #[.slice (some ⟨w.heap.size, 0, none⟩) 1 1] (w.alloc (.cells #[.slice A n c] 22)) fun e w' => e = .returned (.int .i64 0) ∧ Below w.heap.size w w' :=
  (vJ Ds [s] _ 1 1 _ (by decide) (by simpa using h.right) (Hu h)).mono fun _ _ ⟨he, hb⟩ => ⟨he, ((Below.refl _ _).alloc (Nat.le_refl _) _).trans (hb.mono (by simp))⟩
theorem j4 {w : World} {A B : Option Addr} {n c m d : Nat} {a b : af} (ha : bW w A n c a) (hb : bW w B m d b) :
    Calls Tryz.prog 49 #[.slice (some ⟨w.heap.size, 0, none⟩) 2 2] (w.alloc (.cells #[.slice A n c, .slice B m d] 22)) fun e w' => e = .returned (.int .i64 0) ∧ Below w.heap.size w w' :=
  (vJ Ds [a, b] _ 2 2 _ (by decide) (by simpa using ⟨ha.right, hb.right⟩) (JB ha hb)).mono fun _ _ ⟨he, hb⟩ => ⟨he, ((Below.refl _ _).alloc (Nat.le_refl _) _).trans (hb.mono (by simp))⟩
theorem sW {w : World} {A B : Option Addr} {n c m d : Nat} {a b : af} (ha : bW w A n c a) (hb : bW w B m d b) :
    Calls Tryz.prog 51 #[.slice (some ⟨w.heap.size, 0, none⟩) 2 2] (w.alloc (.cells #[.slice A n c, .slice B m d] 22)) fun e w' =>
      ∃ A' c' k, e = .returned (.slice A' k c') ∧ k ≤ 1000 ∧ kW w' w'.heap.size A' k (a ++ b) ∧ Below w.heap.size w w' := by
 have cR := (Below.refl w.heap.size w).alloc (Nat.le_refl _) (.cells #[.slice A n c, .slice B m d] 22);have hf : [a, b].flatten = a ++ b := (by simp)
 have h := ze [a, b] [.slice A n c, .slice B m d] (some ⟨w.heap.size, 0, none⟩) 2 2 (w.alloc (.cells #[.slice A n c, .slice B m d] 22)) rfl
   (by have := Rd.new w 22 1 2 [.slice A n c, .slice B m d] rfl; simpa using this)
   (by
     intro i l u hl hu
     match i with
     | 0 => simp at hl hu; subst hl hu; exact ⟨A, n, c, rfl, (ha.below cR).rd⟩
     | 1 => simp at hl hu; subst hl hu; exact ⟨B, m, d, rfl, (hb.below cR).rd⟩
     | i + 2 => simp at hl)
   (by rw [hf, List.length_append]; have := ha.right.size; have := hb.right.size; omega) (by decide)
 rw [hf] at h;refine h.mono ?_;rintro e w' ⟨⟨v, rfl, ho⟩, bt⟩;obtain ⟨A', c', rfl, _⟩ := aT ho;exact ⟨A', c', _, rfl, by rw [List.length_append]; have := ha.right.size; have := hb.right.size; omega, Rd.gN ho, cR.trans (bt.mono (by simp))⟩
theorem oI (A B : Option Addr) (n c m d : Nat) (a b : af) (w : World) (ha : bW w A n c a) (hb : bW w B m d b) :
    Calls Tryz.prog 17 #[.slice A n c, .slice B m d] w (bS w (mq 124 a b)) := by
 have HA := Lib.hid ha;have HB := Lib.hid hb;clear ha hb;go_enter Tryz.func17, Tryz.ntmps17;go_wp2_with fail;refine (j4 HA.out HB.out).mono ?_;rintro e w1 ⟨rfl, bt⟩;have oh := Lib.hid (HA.out.below bt);have cy := Lib.hid (HB.out.below bt);have ji := Lib.hid bt;clear bt;go_wp2_with fail;refine (sW oh.out cy.out).mono ?_;rintro e w2 ⟨A2, c2, k, rfl, hlen, hrd, bn⟩;have CF := Lib.hid (ji.out.trans (bn.mono ji.out.size));have HO := Lib.hid (KE A2 k c2 (a ++ b) w2 hlen (fun x hx => by
  rcases List.mem_append.1 hx with h | h;exact HA.out.right.each x h;exact HB.out.right.each x h) hrd)
 clear hrd bn;go_wp2_with fail;refine HO.out.mono ?_;rintro e w3 ⟨l', hp, LL, A3, n3, c3, rfl, h1, h2, h3, h4⟩;rw [← IC HA.out.right HB.out.right hp LL] at h1 ⊢;have H1 := Lib.hid (h1.lift (X' := fun b => w.heap.size ≤ b) (fun _ h => Nat.le_trans CF.out.size h));have H4 := Lib.hid (CF.out.trans (h4.mono CF.out.size));clear h1 h4 hp LL HO;go_wp2_with fail;go_ret2;exact ⟨A3, n3, c3, rfl, H1.out, h2, h3, H4.out⟩
theorem wZ (A B : Option Addr) (n c m d : Nat) (a b : af) (w : World) (ha : bW w A n c a) (hb : bW w B m d b) :
    Calls Tryz.prog 18 #[.slice A n c, .slice B m d] w (bS w (mq 38 a b)) := by
 have HA := Lib.hid ha;have HB := Lib.hid hb;clear ha hb;rw [K5 HA.out.right HB.out.right];go_enter Tryz.func18, Tryz.ntmps18;go_wp2_with fail;refine (j4 HA.out HB.out).mono ?_;rintro e w1 ⟨rfl, bt⟩;have HM := Lib.hid (xS A B n m c d a b w1 (by have := HA.out.le; have := HB.out.le; omega) HA.out.cap HB.out.cap HA.out.right.canon HB.out.right.canon (HA.out.below bt).rd (HB.out.below bt).rd);have ji := Lib.hid bt;clear bt;go_wp2_with fail;refine HM.out.mono ?_;rintro e w3 ⟨A3, n3, c3, rfl, mB, El, kJ, aJ⟩;have dQ := Lib.hid (ji.out.trans (aJ.mono ji.out.size));have HT := Lib.hid (fun (e : Ending) (w' : World) h => show bS w (th (di a b)) e w' from bS.uP (mB.lift (X' := fun b => w.heap.size ≤ b) (fun _ h => Nat.le_trans ji.out.size h)) kJ dQ.out h);clear mB aJ;go_wp2_with fail;refine (mI A3 n3 c3 w3).mono ?_;rintro e w4 he;obtain ⟨A5, n5, c5, rfl, h5⟩ := HT.out e w4 he;have H5 := Lib.hid h5;clear h5 he HT;go_wp2_with fail;go_ret2;exact ⟨A5, n5, c5, rfl, H5.out⟩
theorem CC (A B : Option Addr) (n c m d : Nat) (a b : af) (w : World) (ha : bW w A n c a) (hb : bW w B m d b) :
    Calls Tryz.prog 19 #[.slice A n c, .slice B m d] w (bS w (mq 45 a b)) := by
 have HA := Lib.hid ha;have HB := Lib.hid hb;clear ha hb;rw [GV HA.out.right HB.out.right];go_enter Tryz.func19, Tryz.ntmps19;go_wp2_with fail;refine (j4 HA.out HB.out).mono ?_;rintro e w1 ⟨rfl, bt⟩;have oh := Lib.hid (HA.out.below bt);have HN := Lib.hid (Bc B m d b w1 HB.out.le HB.out.right (HB.out.below bt).rd);have ji := Lib.hid bt;clear bt;go_wp2_with fail;refine HN.out.mono ?_;rintro e w2 ⟨A2, n2, c2, rfl, iT, hn2, jj, bn⟩;have cE := Lib.hid (ji.out.trans (bn.mono ji.out.size));have HM := Lib.hid (xS A A2 n n2 c c2 a (uE b) w2 (by have := HA.out.le; omega) HA.out.cap jj HA.out.right.canon (yX HB.out.right.canon).1 (oh.out.below bn).rd iT.of);clear iT bn;go_wp2_with fail;refine HM.out.mono ?_;rintro e w3 ⟨A3, n3, c3, rfl, mB, El, kJ, aJ⟩;have dQ := Lib.hid (cE.out.trans (aJ.mono cE.out.size));have HT := Lib.hid (fun (e : Ending) (w' : World) h => show bS w (th (di a (uE b))) e w' from bS.uP (mB.lift (X' := fun b => w.heap.size ≤ b) (fun _ h => Nat.le_trans cE.out.size h)) kJ dQ.out h);clear mB aJ;go_wp2_with fail;refine (mI A3 n3 c3 w3).mono ?_;rintro e w4 he;obtain ⟨A5, n5, c5, rfl, h5⟩ := HT.out e w4 he;have H5 := Lib.hid h5;clear h5 he HT;go_wp2_with fail;go_ret2;exact ⟨A5, n5, c5, rfl, H5.out⟩
theorem yW (A : Option Addr) (n c : Nat) (a b : af) (w : World) (ha : bW w A n c a) :
    Calls Tryz.prog 20 #[.slice A n c] w (bS w (mq 94 a b)) := by
 have HA := Lib.hid ha;clear ha;rw [Hp HA.out.right b];go_enter Tryz.func20, Tryz.ntmps20;go_wp2_with fail;refine (vL HA.out).mono ?_;rintro e w1 ⟨rfl, bt⟩;have HN := Lib.hid (Bc A n c a w1 HA.out.le HA.out.right (HA.out.below bt).rd);have ji := Lib.hid bt;clear bt;go_wp2_with fail;refine HN.out.mono ?_;rintro e w3 ⟨A3, n3, c3, rfl, mB, El, kJ, aJ⟩;have dQ := Lib.hid (ji.out.trans (aJ.mono ji.out.size));have HT := Lib.hid (fun (e : Ending) (w' : World) h => show bS w (th (uE a)) e w' from bS.uP (mB.lift (X' := fun b => w.heap.size ≤ b) (fun _ h => Nat.le_trans ji.out.size h)) kJ dQ.out h);clear mB aJ;go_wp2_with fail;refine (mI A3 n3 c3 w3).mono ?_;rintro e w4 he;obtain ⟨A5, n5, c5, rfl, h5⟩ := HT.out e w4 he;have H5 := Lib.hid h5;clear h5 he HT;go_wp2_with fail;go_ret2;exact ⟨A5, n5, c5, rfl, H5.out⟩
theorem cG (w : World) (C : Nat) (A : Option Addr) (n c : Nat) (L : List Int) (i : Nat) (h : av w C A n c L i) :
    Calls Tryz.prog 57 #[.pointer (some ⟨C, 0, none⟩)] w fun e w' => e = .returned (.int .i32 (pk L i)) ∧ av w' C A n c L i ∧ bK w C w' :=
  (lg w C A n c L i h).mono fun e w' ⟨he, m, hw⟩ => ⟨he, by rw [hw]; exact h.drewN m, by rw [hw]; exact bK.drewN w C m⟩
theorem lI (w : World) (C : Nat) (A : Option Addr) (n c : Nat) (L : List Int) (i k : Nat) (h : av w C A n c L i) (hk : k ≤ 1000) :
    Calls Tryz.prog 77 #[.pointer (some ⟨C, 0, none⟩), .int .i64 k] w fun e w' => e = .returned (.int .i32 (pk L (i + k))) ∧ av w' C A n c L i ∧ bK w C w' :=
  (Bu w C A n c L i k h hk).mono fun e w' ⟨he, m, hw⟩ => ⟨he, by rw [hw]; exact h.drewN m, by rw [hw]; exact bK.drewN w C m⟩
def ew (w : World) (C : Nat) (A : Option Addr) (n c : Nat) (L : List Int) (r : jz af) (e : Ending) (w' : World) : Prop :=
  match r with
  | .ok (s, j) => (∃ B m d, e = .returned (.slice B m d) ∧ fl w' (fun b => w.heap.size ≤ b) 2 B m (ah s) ∧ m ≤ d) ∧ av w' C A n c L j ∧ bK w C w'
  | .error (x, p) => e = aZ x p ∧ bK w C w'
def jA (L : List Int) (i : Nat) : jz af := match gU L i with
  | .error e => .error e
  | .ok (x, j) => .ok ([x], j)
theorem H6 {L : List Int} {i : Nat} {e : Int × Nat} (h : cC L i = .error e) : jA L i = .error e := by unfold jA gU; rw [h]
theorem xk {L : List Int} {i j : Nat} {x : Int} (h : cC L i = .ok (x, j)) (h2 : ¬ (pk L j = 45 ∧ pk L (j + 1) ≠ 91)) : jA L i = .ok ([(x, x)], j) := by unfold jA gU; rw [h]; simp only; rw [if_neg h2]
theorem II {L : List Int} {i j : Nat} {x : Int} {e : Int × Nat} (h : cC L i = .ok (x, j)) (h2 : pk L j = 45 ∧ pk L (j + 1) ≠ 91) (h3 : cC L (j + 1) = .error e) : jA L i = .error e := by
 unfold jA gU; rw [h]; simp only; rw [if_pos h2, h3]
theorem Ja {L : List Int} {i j k : Nat} {x y : Int} (h : cC L i = .ok (x, j)) (h2 : pk L j = 45 ∧ pk L (j + 1) ≠ 91) (h3 : cC L (j + 1) = .ok (y, k)) (h4 : y < x) : jA L i = .error (3, j + 1) := by
 unfold jA gU; rw [h]; simp only; rw [if_pos h2, h3]; simp only; rw [if_pos h4]
theorem FQ {L : List Int} {i j k : Nat} {x y : Int} (h : cC L i = .ok (x, j)) (h2 : pk L j = 45 ∧ pk L (j + 1) ≠ 91) (h3 : cC L (j + 1) = .ok (y, k)) (h4 : ¬ y < x) : jA L i = .ok ([(x, y)], k) := by
 unfold jA gU; rw [h]; simp only; rw [if_pos h2, h3]; simp only; rw [if_neg h4]
theorem rm {w W : World} {C : Nat} {A : Option Addr} {n c : Nat} {L : List Int} {j : Nat} (x y : Int) (h : av W C A n c L j) (hb : bK w C W) :
    ew w C A n c L (.ok ([(x, y)], j)) (.returned (.slice (some ⟨W.heap.size, 0, none⟩) 1 1)) (W.alloc (.cells #[.int .i32 x, .int .i32 y] 74)) :=
  ⟨⟨_, 1, 1, rfl, fl.new 74 [.int .i32 x, .int .i32 y] rfl hb.1, Nat.le_refl _⟩, h.below ((Below.refl _ _).alloc (Nat.le_refl _) _), hb.trans (bK.below C ((Below.refl _ _).alloc (Nat.le_refl _) _))⟩
theorem Hy (w : World) (C : Nat) (A : Option Addr) (n c : Nat) (L : List Int) (i : Nat) (h : av w C A n c L i) (hL : gi L) :
    Calls Tryz.prog 79 #[.pointer (some ⟨C, 0, none⟩)] w (ew w C A n c L (jA L i)) := by
 have hs := h.size;have hlen := h.len;have HC := Lib.hid h;have fP := Lib.hid (fun (W : World) (k : Nat) (h : av W C A n c L k) => cG W C A n c L k h);have GR := Lib.hid (fun (W : World) (k : Nat) (h : av W C A n c L k) => lI W C A n c L k 1 h (by decide));have GD := Lib.hid (fun (W : World) (k : Nat) (h : av W C A n c L k) => AD W C A n c L k h hL);have JW := Lib.hid hL.ok;clear h hL;obtain ⟨R, hR⟩ : ∃ R, jA L i = R := ⟨_, rfl⟩;rw [hR];have gG := Lib.hid hR;clear hR;have H1 := Lib.hid (GD.out w i HC.out);cases h1 : cC L i with
 | error e0 =>
  obtain ⟨x, p⟩ := e0;rw [h1] at H1;have HR := Lib.hid (gG.out.symm.trans (H6 h1));clear h1;go_enter Tryz.func79, Tryz.ntmps79;go_wp2_with fail;refine H1.out.mono ?_;rintro e w5 ⟨he, hb⟩;unfold aZ at he;subst he;have fR := Lib.hid hb;clear hb;go_wp2_with fail;rw [HR.out];exact ⟨rfl, rfl, fR.out⟩
 | ok q =>
  obtain ⟨x, j⟩ := q;rw [h1] at H1;have jo := Lib.hid h1;obtain ⟨_, hx0, hx1⟩ := nj JW.out h1;clear h1;by_cases hd : pk L j = 45
  ·have zR : j < n := (by rw [← hlen]; exact bA (by omega));have qS := Lib.hid (fun (W : World) (h : av W C A n c L j) => show Calls Tryz.prog 57 #[.pointer (some ⟨C, 0, none⟩)] W fun e w' => e = .returned (.int .i32 45) ∧ av w' C A n c L j ∧ bK W C w' by have := fP.out W j h; rwa [hd] at this);by_cases hb : pk L (j + 1) = 91
   ·have HR := Lib.hid (gG.out.symm.trans (xk jo.out (fun h => h.2 hb)));have Iu := Lib.hid (fun (W : World) (h : av W C A n c L j) => show Calls Tryz.prog 77 #[.pointer (some ⟨C, 0, none⟩), .int .i64 1] W fun e w' => e = .returned (.int .i32 91) ∧ av w' C A n c L j ∧ bK W C w' by have := GR.out W j h; rwa [hb] at this);clear hd hb;go_enter Tryz.func79, Tryz.ntmps79;go_wp2_with fail;refine H1.out.mono ?_;rintro e w5 ⟨rfl, hc, hb⟩;have tq := Lib.hid hc;have fR := Lib.hid hb;clear hb hc;go_wp2_with fail;refine (qS.out _ tq.out).mono ?_;rintro e w6 ⟨rfl, hc, hb⟩;have Gt := Lib.hid hc;have jM := Lib.hid (fR.out.trans hb);clear hb hc;go_wp2_with fail;refine (Iu.out _ Gt.out).mono ?_;rintro e w7 ⟨rfl, hc, hb⟩;have GI := Lib.hid hc;have qC := Lib.hid (jM.out.trans hb);clear hb hc;go_wp2_with fail;go_ret;rw [HR.out];exact rm x x GI.out qC.out
   have Iu := Lib.hid (fun (W : World) (h : av W C A n c L j) => GR.out W j h);have hq : (pk L (j + 1) != 91) = true := (by simp; exact hb);have TD := Lib.hid (And.intro hd hb);generalize pk L (j + 1) = r2 at hq Iu;have H2 := Lib.hid (fun (W : World) (h : av W C A n c L (j + 1)) => GD.out W (j + 1) h);have hcast : ((j + 1 : Nat) : Int) = (j : Int) + 1 := (by omega);have hw1 : IntKind.i64.wrap ((j : Int) + 1) = (j : Int) + 1 := wrap_small _ (by omega) (by omega);clear hd hb;cases h2 : cC L (j + 1) with
   | error e0 =>
    obtain ⟨x2, p2⟩ := e0;rw [h2] at H2;have HR := Lib.hid (gG.out.symm.trans (II jo.out TD.out h2));clear h2;go_enter Tryz.func79, Tryz.ntmps79;go_wp2_with fail;refine H1.out.mono ?_;rintro e w5 ⟨rfl, hc, hb⟩;have tq := Lib.hid hc;have fR := Lib.hid hb;clear hb hc;go_wp2_with fail;refine (qS.out _ tq.out).mono ?_;rintro e w6 ⟨rfl, hc, hb⟩;have Gt := Lib.hid hc;have jM := Lib.hid (fR.out.trans hb);clear hb hc;go_wp2_with fail;refine (Iu.out _ Gt.out).mono ?_;rintro e w7 ⟨rfl, hc, hb⟩;have GI := Lib.hid hc;have qC := Lib.hid (jM.out.trans hb);clear hb hc;obtain ⟨d1, d2, d3, d4⟩ := GI.out.step zR;have N7 := Lib.hid d3;have Ep := Lib.hid (qC.out.trans d4);clear d3 d4;go_wp2_with fail;refine (H2.out _ N7.out).mono ?_;rintro e w9 ⟨he, hb⟩;unfold aZ at he;subst he;have iR := Lib.hid (Ep.out.trans hb);clear hb;go_wp2_with fail;rw [HR.out];exact ⟨rfl, rfl, iR.out⟩
   | ok q =>
    obtain ⟨y, k⟩ := q;rw [h2] at H2;have qt := Lib.hid h2;obtain ⟨_, hy0, hy1⟩ := nj JW.out h2;clear h2;go_enter Tryz.func79, Tryz.ntmps79;go_wp2_with fail;refine H1.out.mono ?_;rintro e w5 ⟨rfl, hc, hb⟩;have tq := Lib.hid hc;have fR := Lib.hid hb;clear hb hc;go_wp2_with fail;refine (qS.out _ tq.out).mono ?_;rintro e w6 ⟨rfl, hc, hb⟩;have Gt := Lib.hid hc;have jM := Lib.hid (fR.out.trans hb);clear hb hc;go_wp2_with fail;refine (Iu.out _ Gt.out).mono ?_;rintro e w7 ⟨rfl, hc, hb⟩;have GI := Lib.hid hc;have qC := Lib.hid (jM.out.trans hb);clear hb hc;obtain ⟨d1, d2, d3, d4⟩ := GI.out.step zR;have N7 := Lib.hid d3;have Ep := Lib.hid (qC.out.trans d4);clear d3 d4;go_wp2_with fail;refine (H2.out _ N7.out).mono ?_;rintro e w9 ⟨rfl, hc, hb⟩;have Uo := Lib.hid hc;have iR := Lib.hid (Ep.out.trans hb);clear hb hc;by_cases hlt : y < x
    ·have HR := Lib.hid (gG.out.symm.trans (Ja jo.out TD.out qt.out hlt));have HF := Lib.hid (fun (W : World) => bX 3 ((j : Int) + 1) W);go_wp2_with fail;refine (HF.out _).mono ?_;rintro e wh ⟨rfl, rfl⟩;go_wp2_with fail;rw [HR.out];exact ⟨rfl, by rw [aZ, hcast], iR.out⟩
    have HR := Lib.hid (gG.out.symm.trans (FQ jo.out TD.out qt.out hlt));go_wp2_with fail;go_ret;rw [HR.out];exact rm x y Uo.out iR.out
  have HR := Lib.hid (gG.out.symm.trans (xk jo.out (fun h => hd h.1)));have hq : (pk L j == 45) = false := (by simp; exact hd);go_enter Tryz.func79, Tryz.ntmps79;go_wp2_with fail;refine H1.out.mono ?_;rintro e w5 ⟨rfl, hc, hb⟩;have tq := Lib.hid hc;have fR := Lib.hid hb;clear hb hc;go_wp2_with fail;refine (fP.out _ _ tq.out).mono ?_;rintro e w6 ⟨rfl, hc, hb⟩;have Gt := Lib.hid hc;have jM := Lib.hid (fR.out.trans hb);clear hb hc;go_wp2_with fail;go_ret;rw [HR.out];exact rm x x Gt.out jM.out
end Go.Proofs.YthnhbcohfoodlaaGreatDoor
