/- SortSpan + SetFour + CurSpan -/
import Derived.Test.YthnhbcohfoodlaaGreatDoorShelf2
import Derived.Test.YthnhbcohfoodlaaGreatDoorShelf
import Derived.Test.YthnhbcohfoodlaaGreatDoorZq13
import Derived.Test.YthnhbcohfoodlaaGreatDoorZq22
import Derived.Test.YthnhbcohfoodlaaGreatDoorZq19
import Derived.Test.YthnhbcohfoodlaaGreatDoorZq28
set_option maxHeartbeats 3200000
set_option maxRecDepth 100000
namespace Go.Proofs.YthnhbcohfoodlaaGreatDoor
open Go.RowKit
def kK (x : Int × Int) : List Value := [.int .i32 x.1, .int .i32 x.2]
def jB (x y : Int × Int) : Int := Lib.compareInt x.1 y.1
theorem wv (x y : Int × Int) : ltOf jB x y = decide (x.1 < y.1) := by
 unfold ltOf jB Lib.compareInt;by_cases h1 : x.1 < y.1
 ·simp [h1]
 by_cases h2 : y.1 < x.1 <;> simp [h1, h2]
theorem GA : Sort.SWO (ltOf jB) where
  irrefl x := by rw [wv]; simp
  trans x y z h1 h2 := by rw [wv] at *; simp at *; omega
  ntrans x y z h1 h2 := by rw [wv] at *; simp at *; omega
theorem zc (x : Int) (w : World) : Calls Tryz.prog 145 #[.int .i32 x] w fun e w' => e = .returned (.bool false) ∧ w' = w := by
 have h : (x != x) = false := (by simp);go_enter Tryz.func145, Tryz.ntmps145;go_wp2_with fail;go_ret;exact ⟨rfl, rfl⟩
theorem EU (x y : Int) (w : World) : Calls Tryz.prog 92 #[.int .i32 x, .int .i32 y] w fun e w' => e = .returned (.int .i64 (Lib.compareInt x y)) ∧ w' = w := by
 unfold Lib.compareInt;by_cases h1 : x < y
 ·rw [if_pos h1];go_enter Tryz.func92, Tryz.ntmps92;go_wp2_with (go_at_call 145; refine (zc _ _).mono ?_; rintro e w' ⟨rfl, rfl⟩);go_ret;exact ⟨rfl, rfl⟩
 rw [if_neg h1];by_cases h2 : x > y
 ·rw [if_pos h2];go_enter Tryz.func92, Tryz.ntmps92;go_wp2_with (go_at_call 145; refine (zc _ _).mono ?_; rintro e w' ⟨rfl, rfl⟩);go_ret;exact ⟨rfl, rfl⟩
 rw [if_neg h2];go_enter Tryz.func92, Tryz.ntmps92;go_wp2_with (go_at_call 145; refine (zc _ _).mono ?_; rintro e w' ⟨rfl, rfl⟩);go_ret;exact ⟨rfl, rfl⟩
theorem IX (x y : Int × Int) (W : World) : Calls Tryz.prog 91 #[.agg #[.int .i32 x.1, .int .i32 x.2], .agg #[.int .i32 y.1, .int .i32 y.2]] W fun e w' => e = .returned (.int .i64 (jB x y)) ∧ ∃ q os', w' = Sort.grow (W.drewN q) os' := by
 have DQ := fun W' => EU x.1 y.1 W';unfold jB;generalize Lib.compareInt x.1 y.1 = r at DQ ⊢;go_enter Tryz.func91, Tryz.ntmps91;go_wp2_with (go_at_call 92; refine (DQ _).mono ?_; rintro e w' ⟨rfl, rfl⟩);go_ret;exact ⟨rfl, 0, _, by rw [Sort.alloc_eq_grow, Sort.alloc_eq_grow, Sort.grow_grow]; rfl⟩
theorem Gd (cX off size : Nat) (w : World) : CmpLays Tryz.prog 91 #[] kK 2 jB cX off size w := fun _ _ _ _ x y => IX x y _
theorem lH (l : ag) (t : Nat) (h : t < l.length * 2) : (ak l)[t]? = some ((kK (l.toArray[t / 2]!))[t % 2]!) := by
 have hk : t / 2 < l.length := (by omega);obtain ⟨⟨x, y⟩, hx⟩ : ∃ z, l[t / 2]? = some z := ⟨_, List.getElem?_eq_getElem hk⟩;obtain ⟨c0, c1⟩ := gF l (t / 2) x y hx;have hg : l.toArray[t / 2]! = (x, y) := by
  rw [getElem!_pos l.toArray (t / 2) (by simpa using hk)];simp only [List.getElem_toArray];exact (List.getElem?_eq_some_iff.1 hx).2
 rw [hg];rcases Nat.mod_two_eq_zero_or_one t with h0 | h0
 ·rw [h0];have e : t = t / 2 * 2 := (by omega);rw [← e] at c0;exact c0
 rw [h0];have e : t = t / 2 * 2 + 1 := (by omega);rw [← e] at c1;exact c1
theorem vi {l : ag} {n : Nat} {d' : Array (Int × Int)} (hn : l.length = n) (hp : Sort.PermIn 0 n l.toArray d') (hs : Sort.SortedIn (ltOf jB) 0 n d') :
    d'.size = n ∧ l.Perm d'.toList ∧ d'.toList.Pairwise (fun a b => a.1 ≤ b.1) := by
 obtain ⟨h1, _, h3⟩ := hp;have hsz : d'.size = n := (by rw [h1]; simpa using hn);have e1 : (d'.extract 0 n).toList = d'.toList := (by rw [← hsz]; simp);have e2 : (l.toArray.extract 0 n).toList = l := (by rw [← hn]; simp);rw [e1, e2] at h3;refine ⟨hsz, h3.symm, List.pairwise_iff_getElem.2 fun i j hi hj hij => ?_⟩;have hi' : i < d'.size := (by simpa using hi);have hj' : j < d'.size := (by simpa using hj);have := hs i j (Nat.zero_le _) hij (by omega);rw [wv, getElem!_pos d' i hi', getElem!_pos d' j hj', decide_eq_false_iff_not] at this;simp only [Array.getElem_toList];omega
theorem mQ (w : World) (g m : Nat) (dk : Array (Int × Int)) (os : Array Obj) : aF w g (sortWorldK kK 2 w g 0 m dk os) := by
 unfold sortWorldK Sort.putRowK Sort.putRow Sort.mapBlock Sort.grow Sort.ahead;refine ⟨by simp, rfl, rfl, rfl, fun k hk hne => ?_⟩;simp only;rw [Array.getElem?_append_left (by simpa using hk), Array.getElem?_modify, if_neg (Ne.symm hne)]
theorem zA (g n c base : Nat) (l : ag) (w : World) (hn : n ≤ 100000) (hl : l.length = n) (ho : w.ownsRow base 74 2 (.slice (some ⟨g, 0, none⟩) n c) n (ak l)) :
    Calls Tryz.prog 90 #[.slice (some ⟨g, 0, none⟩) n c, .func (.func 91) #[] #[]] w fun e w' => e = .returned (.tuple #[]) ∧ aF w g w' ∧
      ∃ l', l.Perm l' ∧ l'.Pairwise (fun a b => a.1 ≤ b.1) ∧ kH w' w'.heap.size (some ⟨g, 0, none⟩) n l' := by
 have hg := (eB ho rfl).2;have hH : Sort.HoldsK kK 2 w g 0 l.toArray := by
  intro j hj;rw [Sort.size_flatK] at hj;have hj2 : j < l.length * 2 := (by simpa using hj);rw [Sort.get_flatK _ _ _ _ (by simpa using hj2), Nat.zero_add];refine ⟨?_, ho.frozenAt _⟩;rw [ho.cellAt _ (by omega)];exact lH l j hj2
 have hsz : l.toArray.size = n := (by simpa using hl);have eg : ∀ args w, (callFunc 91 args).run Tryz.prog w = .ok (.enter 91 args) w := enters_of Tryz.func91 (by kernel_rfl) rfl;have DQ := AnyQ.slices_SortFunc Tryz.sortSpan 2 Tryz.isAgg74 Tryz.sizeOf74 kK (fun _ => rfl) (fun x v hv => by simp [kK] at hv; rcases hv with rfl | rfl <;> rfl) jB GA 91 #[] g 0 c l.toArray w eg (Gd g 0 _ w) hH hg (by rw [hsz]; omega);rw [hsz] at DQ;refine Calls.mono DQ ?_;rintro e w' ⟨rfl, d', m, os, hp, hs, rfl⟩;obtain ⟨h1, h2, h3⟩ := vi hl hp hs;refine ⟨rfl, mQ _ _ _ _ _, d'.toList, h2, h3, ⟨by rw [aY]; simp [h1], fun h0 => ⟨g, 0, rfl, Nat.lt_of_lt_of_le hg (mQ w g m d' os).1, fun j u hu => ?_⟩⟩⟩;have hj : j < d'.toList.length * 2 := (by have := (List.getElem?_eq_some_iff.1 hu).1; rwa [aY] at this);rw [lH _ j hj] at hu;have hK := holdsK_sortWorldK_c kK 2 w g 0 l.toArray d' m os hH hg (by rw [h1, hsz]);have := (hK j (by rw [Sort.size_flatK]; simpa using hj)).1;rw [Sort.get_flatK _ _ _ _ (by simpa using hj)] at this;rw [this];simpa using hu
theorem EL (w : World) :
    Calls Tryz.prog 90 #[.slice none 0 0, .func (.func 91) #[] #[]] w fun e w' => e = .returned (.tuple #[]) ∧ w' = w := by
 have H1 := Lib.hid (show Calls Tryz.prog 168 #[.slice none 0 0, .int .i64 0, .int .i64 0, .func (.func 91) #[] #[]] w fun e w' => e = .returned (.tuple #[]) ∧ w' = w by
  go_enter Tryz.func168, Tryz.ntmps168;go_wp2_with fail;go_loopw [8] (fun i wr => i = .int .i64 1 ∧ wr = w) (fun _ _ => 0);(case atStart => exact ⟨rfl, rfl⟩);obtain ⟨rfl, rfl⟩ := hrel;go_wp2_with fail;go_end0;exact ⟨rfl, rfl⟩)
 have H2 := Lib.hid (fun (x : Int) => show Calls Tryz.prog 143 #[.slice none 0 0, .int .i64 0, .int .i64 0, .int .i64 x, .func (.func 91) #[] #[]] w fun e w' => e = .returned (.tuple #[]) ∧ w' = w by
  go_enter Tryz.func143, Tryz.ntmps143;go_wp2_with fail;go_loopw [1, 2, 3] (fun a b c wr => a = .int .i64 0 ∧ b = .int .i64 0 ∧ c = .int .i64 x ∧ wr = w) (fun _ _ _ _ => 0);(case atStart => exact ⟨rfl, rfl, rfl, rfl⟩);obtain ⟨rfl, rfl, rfl, rfl⟩ := hrel;go_wp2_with fail;refine H1.out.mono ?_;rintro e w1 ⟨rfl, rfl⟩;go_wp2_with fail;(try simp only [Exit.inBlock, Exit.then]);refine bodyPost_ret (results_none rfl _ _ _) rfl ?_;exact ⟨rfl, rfl⟩)
 have H3 := Lib.hid (show Calls Tryz.prog 144 #[.int .u64 0] w fun e w' => e = .returned (.int .i64 (Lib.bitLen 0 : Nat)) ∧ w' = w from Tryz.bits_Len 0 w (by decide) (by decide));go_enter Tryz.func90, Tryz.ntmps90;go_wp2_with (first | (go_at_call 144; refine H3.out.mono ?_; rintro e w1 ⟨rfl, rfl⟩) | (go_at_call 143; refine (H2.out _).mono ?_; rintro e w1 ⟨rfl, rfl⟩));go_end0;exact ⟨rfl, rfl⟩
def bC (w : World) (r : ag × Int) (e : Ending) (w' : World) : Prop := ∃ A' n' c', e = .returned (.tuple #[.slice A' n' c', .int .i64 r.2]) ∧ di w' (fun b => w.heap.size ≤ b) 2 A' n' (ak r.1) ∧ n' ≤ 200 ∧ n' ≤ c' ∧ Below w.heap.size w w'
theorem bC.rM {w w1 : World} {A : Option Addr} {n c : Nat} {s : ag} {e : Ending} {w' : World} (h1 : di w1 (fun b => w.heap.size ≤ b) 2 A n (ak s)) (hc : n ≤ c) (hb : Below w.heap.size w w1)
    (he : e = .returned (if 200 < n then .tuple #[.slice none 0 0, .int .i64 5] else .tuple #[.slice A n c, .int .i64 0]) ∧ w' = w1) : bC w (qy s) e w' := by
 obtain ⟨rfl, rfl⟩ := he;have hl : s.length = n := (by have := h1.1; rw [aY] at this; omega);unfold qy;rw [hl];by_cases h : 200 < n
 ·rw [if_pos h, if_pos h];exact ⟨none, 0, 0, rfl, ⟨rfl, fun h => absurd h (by omega)⟩, by omega, by omega, hb⟩
 rw [if_neg h, if_neg h];exact ⟨A, n, c, rfl, h1, by omega, hc, hb⟩
theorem di.lift {w : World} {X X' : Nat → Prop} {sz n : Nat} {A : Option Addr} {xs : List Value} (h : di w X sz A n xs) (hX : ∀ b, X b → X' b) : di w X' sz A n xs := h.keep (aC.refl hX)
def KW (w : World) (n : Nat) (i : Value) (wr : World) : Prop := ∃ j : Nat, j ≤ n ∧ i = .int .i64 j ∧ Below w.heap.size w wr
def JJ (w : World) (l : ag) (e : Ending) (w' : World) : Prop := ∃ l', l.Perm l' ∧ l'.Pairwise (fun a b => a.1 ≤ b.1) ∧ bC w (qy (gD l')) e w'
theorem Fp (A : Option Addr) (n c : Nat) (l : ag) (w : World) (hn : n ≤ 1000) (hr : lU l) (hl : kH w w.heap.size A n l) :
    Calls Tryz.prog 50 #[.slice A n c] w (JJ w l) := by
 have cn := Lib.hid hl.len;have HL := Lib.hid hl;have HR := Lib.hid hr;clear hl hr;go_enter Tryz.func50, Tryz.ntmps50;go_wp2_with fail;go_loopw [9] (KW w n) (fun i _ => n - (intOf i).toNat);(case atStart => exact ⟨0, Nat.zero_le _, rfl, Below.refl _ _⟩);obtain ⟨j, hj, rfl, hb⟩ := hrel;have hz := hb.size;by_cases hlt : j < n
 ·obtain ⟨⟨x, y⟩, hx⟩ : ∃ z, l[j]? = some z := ⟨_, List.getElem?_eq_getElem (by rw [cn.out]; exact hlt)⟩;obtain ⟨b, off, rfl, eG, c0, c1⟩ := HL.out.at hx;have d0 := (hb.cell (p := ⟨b, off + j * 2, none⟩) eG).trans c0;have d1 := (hb.cell (p := ⟨b, off + j * 2 + 1, none⟩) eG).trans c1;have hxy := HR.out (x, y) (List.mem_of_getElem? hx);simp only at hxy;have b8 := Lib.hid (hb.alloc hz (.cells #[.int .i32 x, .int .i32 y] 74));have g1 : decide (x < 0) = false := decide_eq_false (by omega);have g2 : decide (1114111 < y) = false := decide_eq_false (by omega);have g3 : decide (y < x) = false := decide_eq_false (by omega);clear hx c0 c1 hb;go_wp2_with fail;exact ⟨⟨j + 1, by omega, by go_num, b8.out⟩, by simp [intOf]; omega⟩
 obtain rfl : j = n := (by omega);have iZ := Lib.hid (xe A j c l wr (by omega) ((Rd.below HL.out hb).more hz));have HB := Lib.hid hb;clear hb;go_wp2_with fail;refine iZ.out.mono ?_;rintro e w1 ⟨⟨v, rfl, ho⟩, aT⟩;have b8 := Lib.hid (HB.out.trans (aT.mono hz));have nR := Lib.hid (yF ho hz);clear aT iZ;have Sb := Lib.hid (aP ho);rcases ho.2 with ⟨rfl, hn0⟩ | ⟨g, cap, cur, rfl, hg, hh, Ll⟩
 ·obtain rfl : j = 0 := hn0;have Nc : l = [] := List.eq_nil_of_length_eq_zero cn.out;subst Nc;clear ho Sb;go_wp2_with fail;refine (EL _).mono ?_;rintro e w2 ⟨rfl, rfl⟩;have HM := Lib.hid (pP none 0 0 [] w2 (by omega) (by intro x hx; simp at hx) Rd.nil);go_wp2_with fail;refine HM.out.mono ?_;rintro e w3 ⟨A3, n3, c3, rfl, nt, Oh, eC, bN⟩;have bV := Lib.hid (b8.out.trans (bN.mono b8.out.size));have HP := Lib.hid (fun (e : Ending) (w' : World) h => show bC w (qy (gD [])) e w' from bC.rM (nt.lift (X' := fun b => w.heap.size ≤ b) (fun _ h => Nat.le_trans b8.out.size h)) eC bV.out h);clear nt bN;go_wp2_with fail;refine (lz A3 n3 c3 w3).mono ?_;rintro e w4 he;obtain ⟨A5, n5, c5, rfl, h5⟩ := HP.out e w4 he;have H5 := Lib.hid h5;clear h5 he HP;go_wp2_with fail;go_ret2;exact ⟨[], List.Perm.nil, List.Pairwise.nil, A5, n5, c5, rfl, H5.out⟩
 have HS := Lib.hid (zA g j cap w.heap.size l w1 (by omega) cn.out nR.out);have SY := Lib.hid (Nat.le_trans hz hg);clear ho Sb Ll hh hg;go_wp2_with fail;refine HS.out.mono ?_;rintro e w2 ⟨rfl, wC, l', hp, LA, hrd⟩;have cS := Lib.hid (b8.out.trans (wC.to b8.out.size SY.out));have kN := Lib.hid (show lU l' from fun x hx => HR.out x (hp.mem_iff.2 hx));have HP := Lib.hid hp;have Us := Lib.hid LA;have HM := Lib.hid (pP (some ⟨g, 0, none⟩) j cap l' w2 (by omega) kN.out hrd);clear wC hp LA hrd HS;go_wp2_with fail;refine HM.out.mono ?_;rintro e w3 ⟨A3, n3, c3, rfl, nt, Oh, eC, bN⟩;have bV := Lib.hid (cS.out.trans (bN.mono cS.out.size));have HT := Lib.hid (fun (e : Ending) (w' : World) h => show bC w (qy (gD l')) e w' from bC.rM (nt.lift (X' := fun b => w.heap.size ≤ b) (fun _ h => Nat.le_trans cS.out.size h)) eC bV.out h);clear nt bN;go_wp2_with fail;refine (lz A3 n3 c3 w3).mono ?_;rintro e w4 he;obtain ⟨A5, n5, c5, rfl, h5⟩ := HT.out e w4 he;have H5 := Lib.hid h5;clear h5 he HT;go_wp2_with fail;go_ret2;exact ⟨l', HP.out, Us.out, A5, n5, c5, rfl, H5.out⟩
structure bk (w : World) (A : Option Addr) (n c : Nat) (s : ag) : Prop where
  right : aK s
  rd : kH w w.heap.size A n s
  cap : n ≤ c
theorem bk.below {w w' : World} {A : Option Addr} {n c : Nat} {s : ag} (h : bk w A n c s) (hb : Below w.heap.size w w') : bk w' A n c s := ⟨h.right, (Rd.below h.rd hb).more hb.size, h.cap⟩
theorem bk.le {w : World} {A : Option Addr} {n c : Nat} {s : ag} (h : bk w A n c s) : n ≤ 200 := by have := h.rd.len; have := h.right.size; omega
theorem bk.Kg {w : World} {A : Option Addr} {n c : Nat} {s : ag} (h : bk w A n c s) : vj w vO s [.slice A n c] :=
  ⟨_, rfl, A, n, c, rfl, di.kO h.rd (Nat.le_refl _) (fun _ _ => trivial), by have := h.le; simp only [maxLen]; omega⟩
theorem yp {w : World} {A : Option Addr} {n c : Nat} {s : ag} (h : bk w A n c s) :
    eE (vj (w.alloc (.cells #[.slice A n c] 22)) vO) (w.alloc (.cells #[.slice A n c] 22)) vO 1 (some ⟨w.heap.size, 0, none⟩) 1 [s] := by
 have hb := (Below.refl w.heap.size w).alloc (Nat.le_refl _) (.cells #[.slice A n c] 22);refine ⟨[[.slice A n c]], rfl, rfl, ?_, by simp, di.new 22 [.slice A n c] rfl trivial⟩;intro i a cs ha hc;rcases i with _ | i
 ·simp at ha hc; subst ha hc; exact (h.below hb).Kg
 simp at ha
theorem yg {w : World} {A B : Option Addr} {n c m d : Nat} {a b : ag} (ha : bk w A n c a) (hb : bk w B m d b) :
    eE (vj (w.alloc (.cells #[.slice A n c, .slice B m d] 22)) vO) (w.alloc (.cells #[.slice A n c, .slice B m d] 22)) vO 1 (some ⟨w.heap.size, 0, none⟩) 2 [a, b] := by
 have oo := (Below.refl w.heap.size w).alloc (Nat.le_refl _) (.cells #[.slice A n c, .slice B m d] 22);refine ⟨[[.slice A n c], [.slice B m d]], rfl, rfl, ?_, by simp, di.new 22 [.slice A n c, .slice B m d] rfl trivial⟩;intro i x cs hx hc;match i with
 | 0 => simp at hx hc; subst hx hc; exact (ha.below oo).Kg
 | 1 => simp at hx hc; subst hx hc; exact (hb.below oo).Kg
 | i + 2 => simp at hx
theorem rX {w : World} {A : Option Addr} {n c : Nat} {s : ag} (h : bk w A n c s) :
    Calls Tryz.prog 49 #[.slice (some ⟨w.heap.size, 0, none⟩) 1 1] (w.alloc (.cells #[.slice A n c] 22)) fun e w' => e = .returned (.int .i64 0) ∧ Below w.heap.size w w' :=
  (rZ vO [s] _ 1 1 _ (by decide) (by simpa using h.right) (yp h)).mono fun _ _ ⟨he, hb⟩ => ⟨he, ((Below.refl _ _).alloc (Nat.le_refl _) _).trans (hb.mono (by simp))⟩
theorem jm {w : World} {A B : Option Addr} {n c m d : Nat} {a b : ag} (ha : bk w A n c a) (hb : bk w B m d b) :
    Calls Tryz.prog 49 #[.slice (some ⟨w.heap.size, 0, none⟩) 2 2] (w.alloc (.cells #[.slice A n c, .slice B m d] 22)) fun e w' => e = .returned (.int .i64 0) ∧ Below w.heap.size w w' :=
  (rZ vO [a, b] _ 2 2 _ (by decide) (by simpa using ⟨ha.right, hb.right⟩) (yg ha hb)).mono fun _ _ ⟨he, hb⟩ => ⟨he, ((Below.refl _ _).alloc (Nat.le_refl _) _).trans (hb.mono (by simp))⟩
theorem qt {w : World} {A B : Option Addr} {n c m d : Nat} {a b : ag} (ha : bk w A n c a) (hb : bk w B m d b) :
    Calls Tryz.prog 51 #[.slice (some ⟨w.heap.size, 0, none⟩) 2 2] (w.alloc (.cells #[.slice A n c, .slice B m d] 22)) fun e w' =>
      ∃ A' c' k, e = .returned (.slice A' k c') ∧ k ≤ 1000 ∧ kH w' w'.heap.size A' k (a ++ b) ∧ Below w.heap.size w w' := by
 have oo := (Below.refl w.heap.size w).alloc (Nat.le_refl _) (.cells #[.slice A n c, .slice B m d] 22);have hf : [a, b].flatten = a ++ b := (by simp)
 have h := vT [a, b] [.slice A n c, .slice B m d] (some ⟨w.heap.size, 0, none⟩) 2 2 (w.alloc (.cells #[.slice A n c, .slice B m d] 22)) rfl
   (by have := Rd.new w 22 1 2 [.slice A n c, .slice B m d] rfl; simpa using this)
   (by
     intro i l u hl hu
     match i with
     | 0 => simp at hl hu; subst hl hu; exact ⟨A, n, c, rfl, (ha.below oo).rd⟩
     | 1 => simp at hl hu; subst hl hu; exact ⟨B, m, d, rfl, (hb.below oo).rd⟩
     | i + 2 => simp at hl)
   (by rw [hf, List.length_append]; have := ha.right.size; have := hb.right.size; omega) (by decide)
 rw [hf] at h;refine h.mono ?_;rintro e w' ⟨⟨v, rfl, ho⟩, aT⟩;obtain ⟨A', c', rfl, _⟩ := aP ho;exact ⟨A', c', _, rfl, by rw [List.length_append]; have := ha.right.size; have := hb.right.size; omega, Rd.fk ho, oo.trans (aT.mono (by simp))⟩
theorem ng (A B : Option Addr) (n c m d : Nat) (a b : ag) (w : World) (ha : bk w A n c a) (hb : bk w B m d b) :
    Calls Tryz.prog 17 #[.slice A n c, .slice B m d] w (bC w (gS 124 a b)) := by
 have HA := Lib.hid ha;have HB := Lib.hid hb;clear ha hb;go_enter Tryz.func17, Tryz.ntmps17;go_wp2_with fail;refine (jm HA.out HB.out).mono ?_;rintro e w1 ⟨rfl, aT⟩;have o6 := Lib.hid (HA.out.below aT);have b8 := Lib.hid (HB.out.below aT);have yC := Lib.hid aT;clear aT;go_wp2_with fail;refine (qt o6.out b8.out).mono ?_;rintro e w2 ⟨A2, c2, k, rfl, hlen, hrd, aU⟩;have J7 := Lib.hid (yC.out.trans (aU.mono yC.out.size));have HO := Lib.hid (Fp A2 k c2 (a ++ b) w2 hlen (fun x hx => by
  rcases List.mem_append.1 hx with h | h;exact HA.out.right.each x h;exact HB.out.right.each x h) hrd)
 clear hrd aU;go_wp2_with fail;refine HO.out.mono ?_;rintro e w3 ⟨l', hp, LA, A3, n3, c3, rfl, h1, h2, h3, h4⟩;rw [← Ev HA.out.right HB.out.right hp LA] at h1 ⊢;have H1 := Lib.hid (h1.lift (X' := fun b => w.heap.size ≤ b) (fun _ h => Nat.le_trans J7.out.size h));have H4 := Lib.hid (J7.out.trans (h4.mono J7.out.size));clear h1 h4 hp LA HO;go_wp2_with fail;go_ret2;exact ⟨A3, n3, c3, rfl, H1.out, h2, h3, H4.out⟩
theorem t7 (A B : Option Addr) (n c m d : Nat) (a b : ag) (w : World) (ha : bk w A n c a) (hb : bk w B m d b) :
    Calls Tryz.prog 18 #[.slice A n c, .slice B m d] w (bC w (gS 38 a b)) := by
 have HA := Lib.hid ha;have HB := Lib.hid hb;clear ha hb;rw [Gf HA.out.right HB.out.right];go_enter Tryz.func18, Tryz.ntmps18;go_wp2_with fail;refine (jm HA.out HB.out).mono ?_;rintro e w1 ⟨rfl, aT⟩;have HM := Lib.hid (uK A B n m c d a b w1 (by have := HA.out.le; have := HB.out.le; omega) HA.out.cap HB.out.cap HA.out.right.canon HB.out.right.canon (HA.out.below aT).rd (HB.out.below aT).rd);have yC := Lib.hid aT;clear aT;go_wp2_with fail;refine HM.out.mono ?_;rintro e w3 ⟨A3, n3, c3, rfl, nt, Oh, eC, bN⟩;have bV := Lib.hid (yC.out.trans (bN.mono yC.out.size));have HT := Lib.hid (fun (e : Ending) (w' : World) h => show bC w (qy (cP a b)) e w' from bC.rM (nt.lift (X' := fun b => w.heap.size ≤ b) (fun _ h => Nat.le_trans yC.out.size h)) eC bV.out h);clear nt bN;go_wp2_with fail;refine (lz A3 n3 c3 w3).mono ?_;rintro e w4 he;obtain ⟨A5, n5, c5, rfl, h5⟩ := HT.out e w4 he;have H5 := Lib.hid h5;clear h5 he HT;go_wp2_with fail;go_ret2;exact ⟨A5, n5, c5, rfl, H5.out⟩
theorem yU (A B : Option Addr) (n c m d : Nat) (a b : ag) (w : World) (ha : bk w A n c a) (hb : bk w B m d b) :
    Calls Tryz.prog 19 #[.slice A n c, .slice B m d] w (bC w (gS 45 a b)) := by
 have HA := Lib.hid ha;have HB := Lib.hid hb;clear ha hb;rw [Dh HA.out.right HB.out.right];go_enter Tryz.func19, Tryz.ntmps19;go_wp2_with fail;refine (jm HA.out HB.out).mono ?_;rintro e w1 ⟨rfl, aT⟩;have o6 := Lib.hid (HA.out.below aT);have HN := Lib.hid (xw B m d b w1 HB.out.le HB.out.right (HB.out.below aT).rd);have yC := Lib.hid aT;clear aT;go_wp2_with fail;refine HN.out.mono ?_;rintro e w2 ⟨A2, n2, c2, rfl, gL, hn2, dQ, aU⟩;have cS := Lib.hid (yC.out.trans (aU.mono yC.out.size));have HM := Lib.hid (uK A A2 n n2 c c2 a (qV b) w2 (by have := HA.out.le; omega) HA.out.cap dQ HA.out.right.canon (vX HB.out.right.canon).1 (o6.out.below aU).rd gL.of);clear gL aU;go_wp2_with fail;refine HM.out.mono ?_;rintro e w3 ⟨A3, n3, c3, rfl, nt, Oh, eC, bN⟩;have bV := Lib.hid (cS.out.trans (bN.mono cS.out.size));have HT := Lib.hid (fun (e : Ending) (w' : World) h => show bC w (qy (cP a (qV b))) e w' from bC.rM (nt.lift (X' := fun b => w.heap.size ≤ b) (fun _ h => Nat.le_trans cS.out.size h)) eC bV.out h);clear nt bN;go_wp2_with fail;refine (lz A3 n3 c3 w3).mono ?_;rintro e w4 he;obtain ⟨A5, n5, c5, rfl, h5⟩ := HT.out e w4 he;have H5 := Lib.hid h5;clear h5 he HT;go_wp2_with fail;go_ret2;exact ⟨A5, n5, c5, rfl, H5.out⟩
theorem vn (A : Option Addr) (n c : Nat) (a b : ag) (w : World) (ha : bk w A n c a) :
    Calls Tryz.prog 20 #[.slice A n c] w (bC w (gS 94 a b)) := by
 have HA := Lib.hid ha;clear ha;rw [EN HA.out.right b];go_enter Tryz.func20, Tryz.ntmps20;go_wp2_with fail;refine (rX HA.out).mono ?_;rintro e w1 ⟨rfl, aT⟩;have HN := Lib.hid (xw A n c a w1 HA.out.le HA.out.right (HA.out.below aT).rd);have yC := Lib.hid aT;clear aT;go_wp2_with fail;refine HN.out.mono ?_;rintro e w3 ⟨A3, n3, c3, rfl, nt, Oh, eC, bN⟩;have bV := Lib.hid (yC.out.trans (bN.mono yC.out.size));have HT := Lib.hid (fun (e : Ending) (w' : World) h => show bC w (qy (qV a)) e w' from bC.rM (nt.lift (X' := fun b => w.heap.size ≤ b) (fun _ h => Nat.le_trans yC.out.size h)) eC bV.out h);clear nt bN;go_wp2_with fail;refine (lz A3 n3 c3 w3).mono ?_;rintro e w4 he;obtain ⟨A5, n5, c5, rfl, h5⟩ := HT.out e w4 he;have H5 := Lib.hid h5;clear h5 he HT;go_wp2_with fail;go_ret2;exact ⟨A5, n5, c5, rfl, H5.out⟩
theorem cy (w : World) (C : Nat) (A : Option Addr) (n c : Nat) (L : List Int) (i : Nat) (h : au w C A n c L i) :
    Calls Tryz.prog 57 #[.pointer (some ⟨C, 0, none⟩)] w fun e w' => e = .returned (.int .i32 (pk L i)) ∧ au w' C A n c L i ∧ aF w C w' :=
  (ko w C A n c L i h).mono fun e w' ⟨he, m, hw⟩ => ⟨he, by rw [hw]; exact h.drewN m, by rw [hw]; exact aF.drewN w C m⟩
theorem ke (w : World) (C : Nat) (A : Option Addr) (n c : Nat) (L : List Int) (i k : Nat) (h : au w C A n c L i) (hk : k ≤ 1000) :
    Calls Tryz.prog 77 #[.pointer (some ⟨C, 0, none⟩), .int .i64 k] w fun e w' => e = .returned (.int .i32 (pk L (i + k))) ∧ au w' C A n c L i ∧ aF w C w' :=
  (wW w C A n c L i k h hk).mono fun e w' ⟨he, m, hw⟩ => ⟨he, by rw [hw]; exact h.drewN m, by rw [hw]; exact aF.drewN w C m⟩
def dJ (w : World) (C : Nat) (A : Option Addr) (n c : Nat) (L : List Int) (r : fH ag) (e : Ending) (w' : World) : Prop :=
  match r with
  | .ok (s, j) => (∃ B m d, e = .returned (.slice B m d) ∧ di w' (fun b => w.heap.size ≤ b) 2 B m (ak s) ∧ m ≤ d) ∧ au w' C A n c L j ∧ aF w C w'
  | .error (x, p) => e = aX x p ∧ aF w C w'
def iq (L : List Int) (i : Nat) : fH ag := match iw L i with
  | .error e => .error e
  | .ok (x, j) => .ok ([x], j)
theorem xH {L : List Int} {i : Nat} {e : Int × Nat} (h : bU L i = .error e) : iq L i = .error e := by unfold iq iw; rw [h]
theorem lV {L : List Int} {i j : Nat} {x : Int} (h : bU L i = .ok (x, j)) (h2 : ¬ (pk L j = 45 ∧ pk L (j + 1) ≠ 91)) : iq L i = .ok ([(x, x)], j) := by unfold iq iw; rw [h]; simp only; rw [if_neg h2]
theorem xS {L : List Int} {i j : Nat} {x : Int} {e : Int × Nat} (h : bU L i = .ok (x, j)) (h2 : pk L j = 45 ∧ pk L (j + 1) ≠ 91) (h3 : bU L (j + 1) = .error e) : iq L i = .error e := by
 unfold iq iw; rw [h]; simp only; rw [if_pos h2, h3]
theorem xA {L : List Int} {i j k : Nat} {x y : Int} (h : bU L i = .ok (x, j)) (h2 : pk L j = 45 ∧ pk L (j + 1) ≠ 91) (h3 : bU L (j + 1) = .ok (y, k)) (h4 : y < x) : iq L i = .error (3, j + 1) := by
 unfold iq iw; rw [h]; simp only; rw [if_pos h2, h3]; simp only; rw [if_pos h4]
theorem uN {L : List Int} {i j k : Nat} {x y : Int} (h : bU L i = .ok (x, j)) (h2 : pk L j = 45 ∧ pk L (j + 1) ≠ 91) (h3 : bU L (j + 1) = .ok (y, k)) (h4 : ¬ y < x) : iq L i = .ok ([(x, y)], k) := by
 unfold iq iw; rw [h]; simp only; rw [if_pos h2, h3]; simp only; rw [if_neg h4]
theorem oT {w W : World} {C : Nat} {A : Option Addr} {n c : Nat} {L : List Int} {j : Nat} (x y : Int) (h : au W C A n c L j) (hb : aF w C W) :
    dJ w C A n c L (.ok ([(x, y)], j)) (.returned (.slice (some ⟨W.heap.size, 0, none⟩) 1 1)) (W.alloc (.cells #[.int .i32 x, .int .i32 y] 74)) :=
  ⟨⟨_, 1, 1, rfl, di.new 74 [.int .i32 x, .int .i32 y] rfl hb.1, Nat.le_refl _⟩, h.below ((Below.refl _ _).alloc (Nat.le_refl _) _), hb.trans (aF.below C ((Below.refl _ _).alloc (Nat.le_refl _) _))⟩
theorem DT (w : World) (C : Nat) (A : Option Addr) (n c : Nat) (L : List Int) (i : Nat) (h : au w C A n c L i) (hL : cA L) :
    Calls Tryz.prog 79 #[.pointer (some ⟨C, 0, none⟩)] w (dJ w C A n c L (iq L i)) := by
 have hs := h.size;have hlen := h.len;have HC := Lib.hid h;have fR := Lib.hid (fun (W : World) (k : Nat) (h : au W C A n c L k) => cy W C A n c L k h);have zV := Lib.hid (fun (W : World) (k : Nat) (h : au W C A n c L k) => ke W C A n c L k 1 h (by decide));have tj := Lib.hid (fun (W : World) (k : Nat) (h : au W C A n c L k) => xJ W C A n c L k h hL);have EF := Lib.hid hL.ok;clear h hL;obtain ⟨R, hR⟩ : ∃ R, iq L i = R := ⟨_, rfl⟩;rw [hR];have iM := Lib.hid hR;clear hR;have H1 := Lib.hid (tj.out w i HC.out);cases h1 : bU L i with
 | error e0 =>
  obtain ⟨x, p⟩ := e0;rw [h1] at H1;have HR := Lib.hid (iM.out.symm.trans (xH h1));clear h1;go_enter Tryz.func79, Tryz.ntmps79;go_wp2_with fail;refine H1.out.mono ?_;rintro e w5 ⟨he, hb⟩;unfold aX at he;subst he;have dM := Lib.hid hb;clear hb;go_wp2_with fail;rw [HR.out];exact ⟨rfl, rfl, dM.out⟩
 | ok q =>
  obtain ⟨x, j⟩ := q;rw [h1] at H1;have eH := Lib.hid h1;obtain ⟨_, hx0, hx1⟩ := lO EF.out h1;clear h1;by_cases hd : pk L j = 45
  ·have yE : j < n := (by rw [← hlen]; exact aS (by omega));have o3 := Lib.hid (fun (W : World) (h : au W C A n c L j) => show Calls Tryz.prog 57 #[.pointer (some ⟨C, 0, none⟩)] W fun e w' => e = .returned (.int .i32 45) ∧ au w' C A n c L j ∧ aF W C w' by have := fR.out W j h; rwa [hd] at this);by_cases hb : pk L (j + 1) = 91
   ·have HR := Lib.hid (iM.out.symm.trans (lV eH.out (fun h => h.2 hb)));have EG := Lib.hid (fun (W : World) (h : au W C A n c L j) => show Calls Tryz.prog 77 #[.pointer (some ⟨C, 0, none⟩), .int .i64 1] W fun e w' => e = .returned (.int .i32 91) ∧ au w' C A n c L j ∧ aF W C w' by have := zV.out W j h; rwa [hb] at this);clear hd hb;go_enter Tryz.func79, Tryz.ntmps79;go_wp2_with fail;refine H1.out.mono ?_;rintro e w5 ⟨rfl, hc, hb⟩;have kn := Lib.hid hc;have dM := Lib.hid hb;clear hb hc;go_wp2_with fail;refine (o3.out _ kn.out).mono ?_;rintro e w6 ⟨rfl, hc, hb⟩;have qh := Lib.hid hc;have fu := Lib.hid (dM.out.trans hb);clear hb hc;go_wp2_with fail;refine (EG.out _ qh.out).mono ?_;rintro e w7 ⟨rfl, hc, hb⟩;have qs := Lib.hid hc;have er := Lib.hid (fu.out.trans hb);clear hb hc;go_wp2_with fail;go_ret;rw [HR.out];exact oT x x qs.out er.out
   have EG := Lib.hid (fun (W : World) (h : au W C A n c L j) => zV.out W j h);have hq : (pk L (j + 1) != 91) = true := (by simp; exact hb);have QL := Lib.hid (And.intro hd hb);generalize pk L (j + 1) = r2 at hq EG;have H2 := Lib.hid (fun (W : World) (h : au W C A n c L (j + 1)) => tj.out W (j + 1) h);have hcast : ((j + 1 : Nat) : Int) = (j : Int) + 1 := (by omega);have hw1 : IntKind.i64.wrap ((j : Int) + 1) = (j : Int) + 1 := wrap_small _ (by omega) (by omega);clear hd hb;cases h2 : bU L (j + 1) with
   | error e0 =>
    obtain ⟨x2, p2⟩ := e0;rw [h2] at H2;have HR := Lib.hid (iM.out.symm.trans (xS eH.out QL.out h2));clear h2;go_enter Tryz.func79, Tryz.ntmps79;go_wp2_with fail;refine H1.out.mono ?_;rintro e w5 ⟨rfl, hc, hb⟩;have kn := Lib.hid hc;have dM := Lib.hid hb;clear hb hc;go_wp2_with fail;refine (o3.out _ kn.out).mono ?_;rintro e w6 ⟨rfl, hc, hb⟩;have qh := Lib.hid hc;have fu := Lib.hid (dM.out.trans hb);clear hb hc;go_wp2_with fail;refine (EG.out _ qh.out).mono ?_;rintro e w7 ⟨rfl, hc, hb⟩;have qs := Lib.hid hc;have er := Lib.hid (fu.out.trans hb);clear hb hc;obtain ⟨d1, d2, d3, d4⟩ := qs.out.step yE;have Fw := Lib.hid d3;have jG := Lib.hid (er.out.trans d4);clear d3 d4;go_wp2_with fail;refine (H2.out _ Fw.out).mono ?_;rintro e w9 ⟨he, hb⟩;unfold aX at he;subst he;have cE := Lib.hid (jG.out.trans hb);clear hb;go_wp2_with fail;rw [HR.out];exact ⟨rfl, rfl, cE.out⟩
   | ok q =>
    obtain ⟨y, k⟩ := q;rw [h2] at H2;have fV := Lib.hid h2;obtain ⟨_, hy0, hy1⟩ := lO EF.out h2;clear h2;go_enter Tryz.func79, Tryz.ntmps79;go_wp2_with fail;refine H1.out.mono ?_;rintro e w5 ⟨rfl, hc, hb⟩;have kn := Lib.hid hc;have dM := Lib.hid hb;clear hb hc;go_wp2_with fail;refine (o3.out _ kn.out).mono ?_;rintro e w6 ⟨rfl, hc, hb⟩;have qh := Lib.hid hc;have fu := Lib.hid (dM.out.trans hb);clear hb hc;go_wp2_with fail;refine (EG.out _ qh.out).mono ?_;rintro e w7 ⟨rfl, hc, hb⟩;have qs := Lib.hid hc;have er := Lib.hid (fu.out.trans hb);clear hb hc;obtain ⟨d1, d2, d3, d4⟩ := qs.out.step yE;have Fw := Lib.hid d3;have jG := Lib.hid (er.out.trans d4);clear d3 d4;go_wp2_with fail;refine (H2.out _ Fw.out).mono ?_;rintro e w9 ⟨rfl, hc, hb⟩;have vH := Lib.hid hc;have cE := Lib.hid (jG.out.trans hb);clear hb hc;by_cases hlt : y < x
    ·have HR := Lib.hid (iM.out.symm.trans (xA eH.out QL.out fV.out hlt));have HF := Lib.hid (fun (W : World) => bW 3 ((j : Int) + 1) W);go_wp2_with fail;refine (HF.out _).mono ?_;rintro e sH ⟨rfl, rfl⟩;go_wp2_with fail;rw [HR.out];exact ⟨rfl, by rw [aX, hcast], cE.out⟩
    have HR := Lib.hid (iM.out.symm.trans (uN eH.out QL.out fV.out hlt));go_wp2_with fail;go_ret;rw [HR.out];exact oT x y vH.out cE.out
  have HR := Lib.hid (iM.out.symm.trans (lV eH.out (fun h => hd h.1)));have hq : (pk L j == 45) = false := (by simp; exact hd);go_enter Tryz.func79, Tryz.ntmps79;go_wp2_with fail;refine H1.out.mono ?_;rintro e w5 ⟨rfl, hc, hb⟩;have kn := Lib.hid hc;have dM := Lib.hid hb;clear hb hc;go_wp2_with fail;refine (fR.out _ _ kn.out).mono ?_;rintro e w6 ⟨rfl, hc, hb⟩;have qh := Lib.hid hc;have fu := Lib.hid (dM.out.trans hb);clear hb hc;go_wp2_with fail;go_ret;rw [HR.out];exact oT x x qh.out fu.out
end Go.Proofs.YthnhbcohfoodlaaGreatDoor
