/- ItemsText + Put + WrittenPut + JoinLaw + WordsLen -/
import Derived.Test.YthnhbcohfoodlaaGreatDoorZw20
import Derived.Test.YthnhbcohfoodlaaGreatDoorZw21
import Derived.Test.YthnhbcohfoodlaaGreatDoorZw10
import Derived.Test.YthnhbcohfoodlaaGreatDoorZw18
import Derived.Lib.TrimByte
set_option maxHeartbeats 3200000
set_option maxRecDepth 100000
namespace Go.Proofs.YthnhbcohfoodlaaGreatDoor
open Go.RowKit Go.Shelf
theorem au.mJ {w w' : World} {g base sz n m : Nat} {t e : TypeId} {cs : Array Value} {v v' : Value} {xs ys : List Value} (h : au w g t cs) (ho : w.ownsRow base e sz v n xs) (hne : t ≠ e) (ha : bg base e sz v w m ys v' w') : au w' g t cs := by
 have hlt := h.lt;unfold au at h ⊢;rw [ha.2.1.block g hlt ?_];exact h;intro he;rcases ho.2 with ⟨rfl, _⟩ | ⟨g2, cap, cur, rfl, _, hg, _⟩
 ·simp [Value.ownBlock] at he
 simp only [Value.ownBlock, Option.some.injEq] at he;subst he;rw [h] at hg;injection hg with hg;injection hg with _ ht;exact hne ht
theorem E6 {a : ak} (h : gh a = 0) : (eA a).length ≤ 4300 := by
 unfold eA;rcases gR h with ⟨h1, h2⟩ | ⟨h1, h2⟩ | ⟨h1, h2⟩
 ·rw [if_pos h1];have := cI h2;have := lF a.rune this.1 this.2;omega
 ·rw [h1, if_neg (by decide), if_pos rfl];obtain ⟨h3, h4⟩ := nw h2;have := qM a.set h4;unfold l8 cW;rw [if_pos h2];simp;omega
 rw [h1, if_neg (by decide), if_neg (by decide)];have := jO h2;have e : a.name.data.toList.length = a.name.size := rfl;rw [List.length_cons, e];omega
theorem iO (aa : Int) (l : List ak) : ∀ i, (∀ a ∈ l, gh a = 0) → (eU aa i l).length ≤ 2 * l.length + 1 ∧ ∀ x ∈ eU aa i l, x.length ≤ 4300 := by
 induction l with
 | nil =>
  intro i _;unfold eU;split <;> simp
 | cons a l ih =>
  intro i h;obtain ⟨h1, h2⟩ := ih (i + 1) (fun x hx => h x (by simp [hx]));have h3 := E6 (h a (by simp));unfold eU;split
  ·refine ⟨by simp; omega, fun x hx => ?_⟩;simp at hx;rcases hx with rfl | rfl | hx
   ·simp
   exact h3;exact h2 x hx
  refine ⟨by simp; omega, fun x hx => ?_⟩;simp at hx;rcases hx with rfl | hx;exact h3;exact h2 x hx
theorem kU (A : Option Addr) (n c : Nat) (l : List ak) (aa : Int) (w : World) (hl : bF w w.heap.size A n l) (hok : aM l = 0) (hd : w.cell? ⟨5, 15, none⟩ = some (.int .u8 4)) (ED : 5 < w.heap.size) :
    Calls Tryz.prog 108 #[.slice A n c, .int .i64 aa] w fun e w' => e = .returned (.string ⟨(Lib.join (cN l aa) [32]).toArray⟩) ∧ Below w.heap.size w w' := by
 obtain ⟨i0, hi, hz0, ko, kZ⟩ := info_parts Ev;obtain ⟨h20, hall⟩ := dN hok;obtain ⟨T1, Ek⟩ := iO aa l 0 hall;have hjl := eZ (cN l aa) 4300 Ek;have Rw : (Lib.join (cN l aa) [32]).length ≤ 140737488355328 := Nat.le_trans hjl (Nat.le_trans (Nat.mul_le_mul_right _ T1) (by omega));have VU : n ≤ 20 := (by rw [← iE.len hl]; exact h20);have bY := Lib.hid (iE.len hl);have HL := Lib.hid hl;have HA := Lib.hid hall;have HD := Lib.hid hd;have B6 := Lib.hid ED;have HJ := Lib.hid Rw;have Qg := Lib.hid T1;clear hl hok h20 hall hd ED hjl Rw T1 Ek;go_enter Tryz.func108, Tryz.ntmps108;go_wp2_with fail;go_loopw [5, 12] (MG w l aa n) (fun _ i _ => n - (intOf i).toNat);(case atStart => exact ⟨0, [], Nat.zero_le _, rfl, eY.nil _ _, rfl, Nat.zero_le _, Below.refl _ _⟩);obtain ⟨k, W, hk, rfl, hO, bU, hWl, hb⟩ := hrel;have hz := hb.size;by_cases hlt : k < n
 ·obtain ⟨a, ha⟩ : ∃ z, l[k]? = some z := ⟨_, List.getElem?_eq_getElem (by rw [bY.out]; exact hlt)⟩;have hka := gR (HA.out a (List.mem_of_getElem? ha));rw [jB ha, eU] at bU;obtain ⟨b, off, A', n', c', rfl, eD, f0, f1, f2, f3, gZ, hn', _, hnm⟩ := qh HL.out ha;have d0 := (hb.cell (p := ⟨b, off + k * 4, none⟩) eD).trans f0;have d1 := (hb.cell (p := ⟨b, off + k * 4 + 1, none⟩) eD).trans f1;have d2 := (hb.cell (p := ⟨b, off + k * 4 + 2, none⟩) eD).trans f2;have d3 := (hb.cell (p := ⟨b, off + k * 4 + 3, none⟩) eD).trans f3;have jQ := hb.alloc hz (.cells #[.int .i64 a.kind, .int .i32 a.rune, .slice A' n' c', .string a.name] 114);have Rx : eY _ _ _ _ := World.ownsRow.alloc hO (.cells #[.int .i64 a.kind, .int .i32 a.rune, .slice A' n' c', .string a.name] 114);have Tc := au.new wr 114 #[.int .i64 a.kind, .int .i32 a.rune, .slice A' n' c', .string a.name];clear f0 f1 f2 f3 hO;obtain ⟨AO, cO, rfl, _⟩ := aT Rx;by_cases hc : (k : Int) = aa
  ·have jj : ((k : Int) == aa) = true := (by simpa using hc);rw [if_pos hc] at bU;have HG := Lib.hid bU;have Ej := Lib.hid Rx;have XI := Lib.hid Tc;have qG := Lib.hid jQ;clear bU Rx Tc jQ hc;have Sw := Rd.new (wr.alloc (.cells #[.int .i64 a.kind, .int .i32 a.rune, .slice A' n' c', .string a.name] 114)) 9 1 1 [.string ⟨#[124]⟩] rfl;rw [show (wr.alloc (.cells #[.int .i64 a.kind, .int .i32 a.rune, .slice A' n' c', .string a.name] 114)).heap.size = wr.heap.size + 1 by simp] at Sw;have Cf := Lib.hid Sw;clear Sw;have uQ := Lib.hid (World.ownsRow.alloc Ej.out (.cells #[.string ⟨#[124]⟩] 9));have cy := Lib.hid (qG.out.alloc qG.out.size (.cells #[.string ⟨#[124]⟩] 9));go_wp2_with (at_builtin; refine ax _ rfl (.tmp 20) (.tmp 21) 108 rfl w.heap.size 9 i0 _ 1 16 Tryz.underlying108 hi hz0 ko kZ rfl (by decide) _ _ _ rfl uQ.out ((wr.heap.size + 1) + 1) (some ⟨(wr.heap.size + 1), 0, none⟩) 1 1 [.string ⟨#[124]⟩] rfl Cf.out ?s1 (by simp only [maxLen]; omega) (by omega) cy.out.size ?_);(case s1 => intro u hu; simp at hu; subst hu; rfl);intro v1 w1 aB;have qJ := Lib.hid (eY.push (x := [124]) rfl W aB);have CP := Lib.hid (cy.out.trans (aB.below cy.out.size uQ.out));have tI := Lib.hid (au.mJ (au.alloc XI.out _) uQ.out (by decide) aB);clear aB Cf uQ cy;have hP := qJ.out;generalize pF : W ++ [[124]] = W1 at hP;have abu : W1.length ≤ W.length + 1 := (by rw [← pF]; simp);have wS := Lib.hid pF;have OD := Lib.hid hP;clear pF hP qJ;obtain ⟨Ys, XQ, rfl, _⟩ := aT OD.out;have g0 : w1.cell? ⟨wr.heap.size, 0, none⟩ = some (.int .i64 a.kind) := tI.out.cell 0;have g1 : w1.cell? ⟨wr.heap.size, 1, none⟩ = some (.int .i32 a.rune) := tI.out.cell 1;have g2 : w1.cell? ⟨wr.heap.size, 2, none⟩ = some (.slice A' n' c') := tI.out.cell 2
   have g3 : w1.cell? ⟨wr.heap.size, 3, none⟩ = some (.string a.name) := tI.out.cell 3;rcases hka with ⟨fW, hk2⟩ | ⟨fW, hk2⟩ | ⟨fW, hk2⟩
   ·have e1 : (a.kind == 1) = true := (by rw [fW]; rfl);obtain ⟨KZ, zj⟩ := cI hk2;have hX : (⟨(eA a).toArray⟩ : ByteArray) = ⟨(dK a.rune).toArray⟩ := (by unfold eA; rw [if_pos fW]);have IY := (CP.out.cell B6.out).trans HD.out;clear fW hk2;go_wp2_with fail;refine (jE a.rune KZ zj _ IY).mono ?_;rintro e w2 ⟨rfl, bn⟩;have aJ := CP.out.trans (bn.mono CP.out.size);have Ml : eY w2 w.heap.size _ _ := eX OD.out bn;clear bn IY;have nL := Lib.hid (Rd.new w2 9 1 1 [.string ⟨(dK a.rune).toArray⟩] rfl);have kC := Lib.hid (World.ownsRow.alloc Ml (.cells #[.string ⟨(dK a.rune).toArray⟩] 9));have cE := Lib.hid (aJ.alloc aJ.size (.cells #[.string ⟨(dK a.rune).toArray⟩] 9));go_wp2_with (at_builtin; refine ax _ rfl (.tmp 33) (.tmp 37) 108 rfl w.heap.size 9 i0 _ 1 16 Tryz.underlying108 hi hz0 ko kZ rfl (by decide) _ _ _ rfl kC.out (w2.heap.size + 1) (some ⟨w2.heap.size, 0, none⟩) 1 1 [.string ⟨(dK a.rune).toArray⟩] rfl nL.out ?s2 (by simp only [maxLen]; omega) (by omega) cE.out.size ?_);(case s2 => intro u hu; simp at hu; subst hu; rfl);intro v2 w3 aB;have gl := Lib.hid (eY.push hX W1 aB);have Je := Lib.hid (cE.out.trans (aB.below cE.out.size kC.out));clear aB nL kC cE;go_wp2_with fail;refine ⟨⟨k + 1, W1 ++ [eA a], by omega, by go_num, gl.out, ?_, by simp; omega, Je.out⟩, by simp [intOf]; omega⟩;rw [HG.out, ← wS.out];simp
   ·have e1 : (a.kind == 1) = false := (by rw [fW]; rfl);have e2 : (a.kind == 2) = true := (by rw [fW]; rfl);have hX : (⟨(eA a).toArray⟩ : ByteArray) = (cW a.set).1 := (by unfold eA l8; rw [fW, if_neg (by decide), if_pos rfl, yu]);have Lp : n' ≤ 9223372036854775807 := (by unfold maxLen at hn'; omega);have IY := (CP.out.cell B6.out).trans HD.out;have hs1 : kW w1 w1.heap.size A' n' a.set := Rd.more (Rd.below gZ CP.out) CP.out.size;have HC := Lib.hid (lU A' n' c' a.set _ Lp hs1 IY (Nat.lt_of_lt_of_le B6.out CP.out.size));clear fW hk2 hs1 IY;go_wp2_with fail;refine HC.out.mono ?_;rintro e w2 ⟨rfl, bn⟩;have aJ := CP.out.trans (bn.mono CP.out.size);have Ml : eY w2 w.heap.size _ _ := eX OD.out bn;clear bn;have nL := Lib.hid (Rd.new w2 9 1 1 [.string (cW a.set).1] rfl);have kC := Lib.hid (World.ownsRow.alloc Ml (.cells #[.string (cW a.set).1] 9));have cE := Lib.hid (aJ.alloc aJ.size (.cells #[.string (cW a.set).1] 9));go_wp2_with (at_builtin; refine ax _ rfl (.tmp 47) (.tmp 49) 108 rfl w.heap.size 9 i0 _ 1 16 Tryz.underlying108 hi hz0 ko kZ rfl (by decide) _ _ _ rfl kC.out (w2.heap.size + 1) (some ⟨w2.heap.size, 0, none⟩) 1 1 [.string (cW a.set).1] rfl nL.out ?s2 (by simp only [maxLen]; omega) (by omega) cE.out.size ?_);(case s2 => intro u hu; simp at hu; subst hu; rfl);intro v2 w3 aB;have gl := Lib.hid (eY.push hX W1 aB);have Je := Lib.hid (cE.out.trans (aB.below cE.out.size kC.out));clear aB nL kC cE;go_wp2_with fail;refine ⟨⟨k + 1, W1 ++ [eA a], by omega, by go_num, gl.out, ?_, by simp; omega, Je.out⟩, by simp [intOf]; omega⟩;rw [HG.out, ← wS.out];simp
   have e1 : (a.kind == 1) = false := (by rw [fW]; rfl);have e2 : (a.kind == 2) = false := (by rw [fW]; rfl);have hnl := jO hk2;have hX : (⟨(eA a).toArray⟩ : ByteArray) = ⟨#[36]⟩ ++ a.name := by
    unfold eA;rw [fW, if_neg (by decide), if_neg (by decide)];apply ByteArray.ext;simp
   clear fW hk2;have nL := Lib.hid (Rd.new w1 9 1 1 [.string (⟨#[36]⟩ ++ a.name)] rfl);have kC := Lib.hid (World.ownsRow.alloc OD.out (.cells #[.string (⟨#[36]⟩ ++ a.name)] 9));have cE := Lib.hid (CP.out.alloc CP.out.size (.cells #[.string (⟨#[36]⟩ ++ a.name)] 9));go_wp2_with (at_builtin; refine ax _ rfl (.tmp 25) (.tmp 29) 108 rfl w.heap.size 9 i0 _ 1 16 Tryz.underlying108 hi hz0 ko kZ rfl (by decide) _ _ _ rfl kC.out (w1.heap.size + 1) (some ⟨w1.heap.size, 0, none⟩) 1 1 [.string (⟨#[36]⟩ ++ a.name)] rfl nL.out ?s2 (by simp only [maxLen]; omega) (by omega) cE.out.size ?_);(case s2 => intro u hu; simp at hu; subst hu; rfl);intro v2 w3 aB;have gl := Lib.hid (eY.push hX W1 aB);have Je := Lib.hid (cE.out.trans (aB.below cE.out.size kC.out));clear aB nL kC cE;go_wp2_with fail;refine ⟨⟨k + 1, W1 ++ [eA a], by omega, by go_num, gl.out, ?_, by simp; omega, Je.out⟩, by simp [intOf]; omega⟩;rw [HG.out, ← wS.out];simp
  have jj : ((k : Int) == aa) = false := (by simpa using hc);rw [if_neg hc] at bU;have HG := Lib.hid bU;have Ej := Lib.hid Rx;have XI := Lib.hid Tc;have qG := Lib.hid jQ;clear bU Rx Tc jQ hc;rcases hka with ⟨fW, hk2⟩ | ⟨fW, hk2⟩ | ⟨fW, hk2⟩
  ·have e1 : (a.kind == 1) = true := (by rw [fW]; rfl);obtain ⟨KZ, zj⟩ := cI hk2;have hX : (⟨(eA a).toArray⟩ : ByteArray) = ⟨(dK a.rune).toArray⟩ := (by unfold eA; rw [if_pos fW]);have IY := (qG.out.cell B6.out).trans HD.out;clear fW hk2;go_wp2_with fail;refine (jE a.rune KZ zj _ IY).mono ?_;rintro e w2 ⟨rfl, bn⟩;have aJ := qG.out.trans (bn.mono qG.out.size);have Ml : eY w2 w.heap.size _ _ := eX Ej.out bn;clear bn IY;have nL := Lib.hid (Rd.new w2 9 1 1 [.string ⟨(dK a.rune).toArray⟩] rfl);have kC := Lib.hid (World.ownsRow.alloc Ml (.cells #[.string ⟨(dK a.rune).toArray⟩] 9));have cE := Lib.hid (aJ.alloc aJ.size (.cells #[.string ⟨(dK a.rune).toArray⟩] 9));go_wp2_with (at_builtin; refine ax _ rfl (.tmp 33) (.tmp 37) 108 rfl w.heap.size 9 i0 _ 1 16 Tryz.underlying108 hi hz0 ko kZ rfl (by decide) _ _ _ rfl kC.out (w2.heap.size + 1) (some ⟨w2.heap.size, 0, none⟩) 1 1 [.string ⟨(dK a.rune).toArray⟩] rfl nL.out ?s2 (by simp only [maxLen]; omega) (by omega) cE.out.size ?_);(case s2 => intro u hu; simp at hu; subst hu; rfl);intro v2 w3 aB;have gl := Lib.hid (eY.push hX W aB);have Je := Lib.hid (cE.out.trans (aB.below cE.out.size kC.out));clear aB nL kC cE;go_wp2_with fail;refine ⟨⟨k + 1, W ++ [eA a], by omega, by go_num, gl.out, ?_, by simp; omega, Je.out⟩, by simp [intOf]; omega⟩;rw [HG.out];simp
  ·have e1 : (a.kind == 1) = false := (by rw [fW]; rfl);have e2 : (a.kind == 2) = true := (by rw [fW]; rfl);have hX : (⟨(eA a).toArray⟩ : ByteArray) = (cW a.set).1 := (by unfold eA l8; rw [fW, if_neg (by decide), if_pos rfl, yu]);have Lp : n' ≤ 9223372036854775807 := (by unfold maxLen at hn'; omega);have IY := (qG.out.cell B6.out).trans HD.out;have hs1 : kW (wr.alloc (.cells #[.int .i64 a.kind, .int .i32 a.rune, .slice A' n' c', .string a.name] 114)) (wr.alloc (.cells #[.int .i64 a.kind, .int .i32 a.rune, .slice A' n' c', .string a.name] 114)).heap.size A' n' a.set := Rd.more (Rd.below gZ qG.out) qG.out.size;have HC := Lib.hid (lU A' n' c' a.set _ Lp hs1 IY (Nat.lt_of_lt_of_le B6.out qG.out.size));clear fW hk2 hs1 IY;go_wp2_with fail;refine HC.out.mono ?_;rintro e w2 ⟨rfl, bn⟩;have aJ := qG.out.trans (bn.mono qG.out.size);have Ml : eY w2 w.heap.size _ _ := eX Ej.out bn;clear bn;have nL := Lib.hid (Rd.new w2 9 1 1 [.string (cW a.set).1] rfl);have kC := Lib.hid (World.ownsRow.alloc Ml (.cells #[.string (cW a.set).1] 9));have cE := Lib.hid (aJ.alloc aJ.size (.cells #[.string (cW a.set).1] 9));go_wp2_with (at_builtin; refine ax _ rfl (.tmp 47) (.tmp 49) 108 rfl w.heap.size 9 i0 _ 1 16 Tryz.underlying108 hi hz0 ko kZ rfl (by decide) _ _ _ rfl kC.out (w2.heap.size + 1) (some ⟨w2.heap.size, 0, none⟩) 1 1 [.string (cW a.set).1] rfl nL.out ?s2 (by simp only [maxLen]; omega) (by omega) cE.out.size ?_);(case s2 => intro u hu; simp at hu; subst hu; rfl);intro v2 w3 aB;have gl := Lib.hid (eY.push hX W aB);have Je := Lib.hid (cE.out.trans (aB.below cE.out.size kC.out));clear aB nL kC cE;go_wp2_with fail;refine ⟨⟨k + 1, W ++ [eA a], by omega, by go_num, gl.out, ?_, by simp; omega, Je.out⟩, by simp [intOf]; omega⟩;rw [HG.out];simp
  have e1 : (a.kind == 1) = false := (by rw [fW]; rfl);have e2 : (a.kind == 2) = false := (by rw [fW]; rfl);have hnl := jO hk2;have hX : (⟨(eA a).toArray⟩ : ByteArray) = ⟨#[36]⟩ ++ a.name := by
   unfold eA;rw [fW, if_neg (by decide), if_neg (by decide)];apply ByteArray.ext;simp
  clear fW hk2;have TA := Rd.new (wr.alloc (.cells #[.int .i64 a.kind, .int .i32 a.rune, .slice A' n' c', .string a.name] 114)) 9 1 1 [.string (⟨#[36]⟩ ++ a.name)] rfl;rw [show (wr.alloc (.cells #[.int .i64 a.kind, .int .i32 a.rune, .slice A' n' c', .string a.name] 114)).heap.size = wr.heap.size + 1 by simp] at TA;have nL := Lib.hid TA;clear TA;have kC := Lib.hid (World.ownsRow.alloc Ej.out (.cells #[.string (⟨#[36]⟩ ++ a.name)] 9));have cE := Lib.hid (qG.out.alloc qG.out.size (.cells #[.string (⟨#[36]⟩ ++ a.name)] 9));go_wp2_with (at_builtin; refine ax _ rfl (.tmp 25) (.tmp 29) 108 rfl w.heap.size 9 i0 _ 1 16 Tryz.underlying108 hi hz0 ko kZ rfl (by decide) _ _ _ rfl kC.out ((wr.heap.size + 1) + 1) (some ⟨(wr.heap.size + 1), 0, none⟩) 1 1 [.string (⟨#[36]⟩ ++ a.name)] rfl nL.out ?s2 (by simp only [maxLen]; omega) (by omega) cE.out.size ?_);(case s2 => intro u hu; simp at hu; subst hu; rfl);intro v2 w3 aB;have gl := Lib.hid (eY.push hX W aB);have Je := Lib.hid (cE.out.trans (aB.below cE.out.size kC.out));clear aB nL kC cE;go_wp2_with fail;refine ⟨⟨k + 1, W ++ [eA a], by omega, by go_num, gl.out, ?_, by simp; omega, Je.out⟩, by simp [intOf]; omega⟩;rw [HG.out];simp
 obtain rfl : k = n := (by omega);rw [List.drop_of_length_le (by rw [bY.out]; omega), eU] at bU;have Up := Qg.out;rw [bY.out] at Up;obtain ⟨AO, cO, rfl, _⟩ := aT hO;by_cases hc : (k : Int) = aa
 ·have jj : (aa == (k : Int)) = true := (by simpa using hc.symm);rw [if_pos hc] at bU;have HG := Lib.hid bU;have Ej := Lib.hid hO;clear bU hO hc;have Cf := Lib.hid (Rd.new wr 9 1 1 [.string ⟨#[124]⟩] rfl);have uQ := Lib.hid (World.ownsRow.alloc Ej.out (.cells #[.string ⟨#[124]⟩] 9));have cy := Lib.hid (hb.alloc hb.size (.cells #[.string ⟨#[124]⟩] 9));go_wp2_with (at_builtin; refine ax _ rfl (.tmp 56) (.tmp 57) 108 rfl w.heap.size 9 i0 _ 1 16 Tryz.underlying108 hi hz0 ko kZ rfl (by decide) _ _ _ rfl uQ.out (wr.heap.size + 1) (some ⟨wr.heap.size, 0, none⟩) 1 1 [.string ⟨#[124]⟩] rfl Cf.out ?s1 (by simp only [maxLen]; omega) (by omega) cy.out.size ?_);(case s1 => intro u hu; simp at hu; subst hu; rfl);intro v1 w1 aB;have qJ := Lib.hid (eY.push (x := [124]) rfl W aB);have CP := Lib.hid (cy.out.trans (aB.below cy.out.size uQ.out));clear aB Cf uQ cy;have hP := qJ.out;rw [← HG.out] at hP;obtain ⟨Ys, XQ, rfl, _⟩ := aT hP;have HC := Lib.hid (ej Ys _ XQ _ _ w1 hP rfl (Nat.le_trans Qg.out (by rw [bY.out]; omega)) HJ.out);clear hP qJ;go_wp2_with fail;refine HC.out.mono ?_;rintro e w2 ⟨rfl, bn⟩;have aJ := CP.out.trans (bn.mono CP.out.size);clear bn;go_wp2_with fail;go_ret;exact ⟨rfl, aJ⟩
 have jj : (aa == (k : Int)) = false := (by simp; exact fun h => hc h.symm);rw [if_neg hc, List.append_nil] at bU;have hP := hO;rw [← bU] at hP;have HC := Lib.hid (ej AO _ cO _ _ wr hO rfl (by omega) (by rw [← bU]; exact HJ.out));have HG := Lib.hid bU;clear bU hO hc hP;go_wp2_with fail;refine HC.out.mono ?_;rintro e w2 ⟨rfl, bn⟩;have aJ := hb.trans (bn.mono hb.size);clear bn;go_wp2_with fail;go_ret;rw [HG.out];exact ⟨rfl, aJ⟩
end Go.Proofs.YthnhbcohfoodlaaGreatDoor
namespace Go.Proofs.YthnhbcohfoodlaaGreatDoor
open Go.RowKit
def Lx (w : World) (base g : Nat) (W : List (List UInt8)) (w' : World) : Prop :=
  (∃ v', au w' g 108 #[v'] ∧ eY w' base v' W) ∧ Below base w w' ∧ ∀ (g2 : Nat) (t : TypeId) (cs : Array Value), g2 ≠ g → t ≠ 9 → au w g2 t cs → au w' g2 t cs
theorem qj {w : World} {base g : Nat} {v u : Value} {W : List (List UInt8)} {cs : Array Value} (h : eY w base v W) (hb : au w g 108 cs) (i : Nat) : eY (w.setCell ⟨g, i, none⟩ u) base v W := by
 rcases h.2 with ⟨hv, h0⟩ | ⟨k, cap, cur, hv, h1, h2, h3⟩;exact ⟨h.1, .inl ⟨hv, h0⟩⟩;refine ⟨h.1, .inr ⟨k, cap, cur, hv, h1, ?_, h3⟩⟩;rw [Below.heap_setCell _ _ _ _ ?_];exact h2;intro e;simp only at e;subst e;unfold au at hb;rw [hb] at h2;injection h2 with h2;injection h2 with _ ht;exact absurd ht (by decide)
theorem qs {w : World} {g g2 i : Nat} {u : Value} {t : TypeId} {cs : Array Value} (h : au w g2 t cs) (hne : g2 ≠ g) : au (w.setCell ⟨g, i, none⟩ u) g2 t cs := by
 unfold au at h ⊢;rw [Below.heap_setCell _ _ _ _ hne];exact h
theorem I0 (base g : Nat) (x : List UInt8) (W : List (List UInt8)) (v : Value) (w : World) (hg : au w g 108 #[v]) (hO : eY w base v W) (Vq : base ≤ g) (hbz : base ≤ w.heap.size) (hW : W.length ≤ 1000) :
    Calls Tryz.prog 107 #[.string ⟨x.toArray⟩, .pointer (some ⟨g, 0, none⟩)] w fun e w' => e = .returned (.tuple #[]) ∧ Lx w base g (if x = [] then W else W ++ [x]) w' := by
 obtain ⟨i0, hi, hz0, ko, kZ⟩ := info_parts Ev;by_cases hx : x = []
 ·subst hx;rw [if_pos rfl];have HG := Lib.hid hg;have HO := Lib.hid hO;clear hg hO;go_enter Tryz.func107, Tryz.ntmps107;go_wp2_with fail;go_end0;exact ⟨rfl, ⟨v, HG.out, HO.out⟩, Below.refl _ _, fun _ _ _ _ _ h => h⟩
 rw [if_neg hx];have hne : x.isEmpty = false := (by simpa using hx);have c0 : w.cell? ⟨g, 0, none⟩ = some v := hg.cell 0;obtain ⟨AO, cO, rfl, _⟩ := aT hO;have HN := Lib.hid (Rd.new w 9 1 1 [.string ⟨x.toArray⟩] rfl);have HO := Lib.hid (World.ownsRow.alloc hO (.cells #[.string ⟨x.toArray⟩] 9));have HB := Lib.hid ((Below.refl base w).alloc hbz (.cells #[.string ⟨x.toArray⟩] 9));have HG := Lib.hid (au.alloc hg (.cells #[.string ⟨x.toArray⟩] 9));have HZ := Lib.hid (fun (g2 : Nat) (t : TypeId) (cs : Array Value) (h : au w g2 t cs) => au.alloc h (.cells #[.string ⟨x.toArray⟩] 9));clear hg hO;go_enter Tryz.func107, Tryz.ntmps107;go_wp2_with (at_builtin; refine ax _ rfl (.tmp 5) (.tmp 7) 108 rfl base 9 i0 _ 1 16 Tryz.underlying108 hi hz0 ko kZ rfl (by decide) _ _ _ rfl HO.out (w.heap.size + 1) (some ⟨w.heap.size, 0, none⟩) 1 1 [.string ⟨x.toArray⟩] rfl HN.out ?s1 (by simp only [maxLen]; omega) (by omega) (Nat.le_trans hbz HB.out.size) ?_);(case s1 => intro u hu; simp at hu; subst hu; rfl);intro v' w2 aB;have Ta := au.mJ HG.out HO.out (by decide) aB;have VD := eY.push (x := x) rfl W aB;have LU := HB.out.trans (aB.below (Nat.le_trans hbz HB.out.size) HO.out);have EE := Lib.hid (fun (g2 : Nat) (t : TypeId) (cs : Array Value) (ht : t ≠ 9) (h : au w g2 t cs) => au.mJ (HZ.out g2 t cs h) HO.out ht aB);have q0 : w2.cell? ⟨g, 0, none⟩ = some _ := Ta.cell 0;have q1 := Ta.frozen 0;clear aB;obtain ⟨A2, c2, rfl, _⟩ := aT VD;have pE := Lib.hid Ta;have kC := Lib.hid VD;have cE := Lib.hid LU;clear Ta VD LU;go_wp2_with fail;go_end0;refine ⟨rfl, ⟨_, ?_, qj kC.out pE.out 0⟩, cE.out.setCell Vq _, fun g2 t cs h1 h2 h3 => qs (EE.out g2 t cs h2 h3) h1⟩;have hlen : (W ++ [x]).length = W.length + 1 := (by simp);rw [hlen]
 have := pE.out.put 0 (.slice A2 (W.length + 1) c2);simpa using this
end Go.Proofs.YthnhbcohfoodlaaGreatDoor
namespace Go.Proofs.YthnhbcohfoodlaaGreatDoor
open Go.RowKit Go.Shelf
def aL (W : List (List UInt8)) (x : List UInt8) : List (List UInt8) := if x = [] then W else W ++ [x]
theorem aP (W : List (List UInt8)) (x : List UInt8) : (aL W x).length ≤ W.length + 1 := by
 unfold aL;split;omega;simp
theorem aG (W : List (List UInt8)) (x : List UInt8) (m : Nat) (h : ∀ y ∈ W, y.length ≤ m) (hx : x.length ≤ m) : ∀ y ∈ aL W x, y.length ≤ m := by
 unfold aL;split;exact h;intro y hy;rcases List.mem_append.1 hy with hy | hy;exact h y hy;simp at hy; subst hy; exact hx
def dX (w : World) (base g g0 : Nat) (cs : Array Value) (W : List (List UInt8)) (w' : World) : Prop :=
  au w' g0 96 cs ∧ (∃ v, au w' g 108 #[v] ∧ eY w' base v W) ∧ Below base w w'
theorem aC {w w' : World} {base g g0 : Nat} {cs : Array Value} {W : List (List UInt8)} (x : List UInt8) (h : dX w base g g0 cs W w') (Vq : base ≤ g) (hz : base ≤ w.heap.size) (hne : g0 ≠ g) (hW : W.length ≤ 1000) :
    Calls Tryz.prog 107 #[.string ⟨x.toArray⟩, .pointer (some ⟨g, 0, none⟩)] w' fun e w2 => e = .returned (.tuple #[]) ∧ dX w base g g0 cs (aL W x) w2 := by
 obtain ⟨h1, ⟨v, h2, h3⟩, h4⟩ := h;refine (I0 base g x W v w' h2 h3 Vq (Nat.le_trans hz h4.size) hW).mono ?_;rintro e w2 ⟨rfl, h5, h6, h7⟩;exact ⟨rfl, h7 g0 _ cs hne (by decide) h1, h5, h4.trans h6⟩
theorem aI {w w' w2 : World} {base g g0 : Nat} {cs : Array Value} {W : List (List UInt8)} (h : dX w base g g0 cs W w') (hb : Below w'.heap.size w' w2) (hz : base ≤ w.heap.size) : dX w base g g0 cs W w2 := by
 obtain ⟨h1, ⟨v, h2, h3⟩, h4⟩ := h;exact ⟨au.below h1 hb h1.lt, ⟨v, au.below h2 hb h2.lt, eX h3 hb⟩, h4.trans (hb.mono (Nat.le_trans hz h4.size))⟩
end Go.Proofs.YthnhbcohfoodlaaGreatDoor
namespace Go.Proofs.YthnhbcohfoodlaaGreatDoor
open Go.RowKit
abbrev J (l : List Word) : List UInt8 := Lib.join l [32]
theorem tA (a b : List Word) : Lib.joinTail [32] (a ++ b) = Lib.joinTail [32] a ++ Lib.joinTail [32] b := by simp [Lib.joinTail]
theorem oL {b : List Word} (hb : b ≠ []) : Lib.joinTail [32] b = 32 :: J b := by
 cases b with
 | nil => exact absurd rfl hb
 | cons y b => simp [Lib.joinTail, J, Lib.join_cons]
theorem lK {a b : List Word} (ha : a ≠ []) (hb : b ≠ []) : J (a ++ b) = J a ++ 32 :: J b := by
 cases a with
 | nil => exact absurd rfl ha
 | cons x a => rw [List.cons_append, J, Lib.join_cons, tA, oL hb, show J (x :: a) = x ++ Lib.joinTail [32] a from Lib.join_cons _ _ _, List.append_assoc]
def fL (w : Word) : Prop := w ≠ [] ∧ 32 ∉ w
theorem RH {l : List Word} (h : ∀ x ∈ l, fL x) (hl : l ≠ []) : J l ≠ [] := by
 cases l with
 | nil => exact absurd rfl hl
 | cons x l =>
  have := (h x (by simp)).1;rw [J, Lib.join_cons];intro e;rw [List.append_eq_nil_iff] at e;exact this e.1
def wg (a b : List Word) : Prop := J a = J b ∧ (a = [] ↔ b = [])
theorem wg.refl (a : List Word) : wg a a := ⟨rfl, Iff.rfl⟩
theorem wg.append {a b : List Word} (h : wg a b) (c : List Word) : wg (a ++ c) (b ++ c) := by
 by_cases hc : c = []
 ·subst hc; simpa using h
 by_cases ha : a = []
 ·have hb := h.2.1 ha;subst ha hb;exact wg.refl _
 have hb : b ≠ [] := fun e => ha (h.2.2 e);refine ⟨?_, by simp [hc]⟩;rw [lK ha hc, lK hb hc, h.1]
theorem wg.one {a b : List Word} (h : wg a b) {x : Word} (hx : x ≠ []) : wg (aL a x) (b ++ [x]) := by
 unfold aL;rw [if_neg hx];exact h.append _
theorem wg.more {a b : List Word} (h : wg a b) {X : List Word} (hX : ∀ x ∈ X, fL x) : wg (aL a (J X)) (b ++ X) := by
 unfold aL;by_cases hx : X = []
 ·subst hx;rw [if_pos (by simp [J, Lib.join_nil])];simpa using h
 have hj := RH hX hx;rw [if_neg hj];have h2 := h.append [J X];refine ⟨?_, by simp [hx]⟩;rw [h2.1];by_cases hb : b = []
 ·subst hb;simp [J, Lib.join_one]
 rw [lK hb hx, lK hb (by simp)];simp [J, Lib.join_one]
theorem gS (c : UInt8) (h : c ≠ 32) : fL [c] := ⟨by simp, by simpa using Ne.symm h⟩
theorem lT {a b : Word} (ha : fL a) (hb : fL b) : fL (a ++ b) := ⟨by simp [ha.1], by simp [ha.2, hb.2]⟩
theorem oN : ∀ i : Fin 16, oO i.val ≠ 32 := by decide
theorem FP (d : Nat) : ∀ n, n < 16 ^ (d + 1) → fL (lM n) := by
 induction d with
 | zero =>
  intro n hn;rw [eN (by simpa using hn)];exact gS _ (oN ⟨n, by simpa using hn⟩)
 | succ d ih =>
  intro n hn;by_cases h : n < 16
  ·rw [eN h];exact gS _ (oN ⟨n, h⟩)
  rw [mK (by omega)];refine lT (ih _ ?_) (gS _ (oN ⟨n % 16, Nat.mod_lt _ (by decide)⟩));rw [Nat.div_lt_iff_lt_mul (by decide)];rw [Nat.pow_succ] at hn;exact hn
theorem Lt {x : Int} (h : (128 ≤ x ∧ x ≤ 255) ∨ (48 ≤ x ∧ x ≤ 127)) : x.toNat.toUInt8 ≠ 32 := by
 intro e;have := congrArg UInt8.toNat e;simp at this;omega
theorem EW {r : Int} (h : jq r = true ∨ (126 < r ∧ aU r = true)) : fL (Lib.encodeRune r) := by
 have key : ∀ l : List Int, l ≠ [] → (∀ x ∈ l, (128 ≤ x ∧ x ≤ 255) ∨ (48 ≤ x ∧ x ≤ 127)) → fL (l.map fun x => x.toNat.toUInt8) := by
  intro l hl hx;refine ⟨by simpa using hl, fun hm => ?_⟩;obtain ⟨x, hx1, hx2⟩ := List.mem_map.1 hm;exact Lt (hx x hx1) hx2
 unfold jq aU at h;rw [decide_eq_true_iff, decide_eq_true_iff] at h;unfold Lib.encodeRune;by_cases h1 : r ≤ 127
 ·rw [Lib.encodeRuneZ_one (by omega) h1];exact key _ (by simp) (by simp; omega)
 by_cases h2 : r ≤ 2047
 ·rw [Lib.encodeRuneZ_two (by omega) h2];exact key _ (by simp) (by simp; omega)
 by_cases h3 : r ≤ 65535
 ·rw [Lib.encodeRuneZ_three (by omega)];exact key _ (by simp) (by simp; omega)
 rw [Lib.encodeRuneZ_four (by omega) (by omega)];exact key _ (by simp) (by simp; omega)
theorem mX {r : Int} (h0 : 0 ≤ r) (h1 : r ≤ 1114111) : fL (dK r) := by
 unfold dK;split
 ·(next h => exact EW h)
 refine lT (lT ⟨by simp, by decide⟩ (FP 5 _ ?_)) (gS _ (by decide));omega
theorem E9 {l : af} (h : cm l = 0) : fL (l8 l) := by
 obtain ⟨_, h2⟩ := nw h;have hp : 32 ∉ iQ l := by
  unfold iQ;intro hm;obtain ⟨k, hk, hm⟩ := List.mem_flatMap.1 hm;obtain ⟨a1, a2, a3⟩ := h2 k hk;unfold qB at hm;rcases List.mem_append.1 hm with hm | hm;exact (mX a1 (by omega)).2 hm;split at hm
  ·rcases List.mem_cons.1 hm with hm | hm
   ·cases hm
   exact (mX (by omega) a3).2 hm
  cases hm
 unfold l8 cW;rw [if_pos h];refine ⟨by simp, ?_⟩;simp [hp]
theorem CW {s : ByteArray} (h : cV s = true) : 32 ∉ s.data.toList := by
 unfold cV at h;rw [decide_eq_true_iff] at h;intro hm;obtain ⟨i, hi, he⟩ := List.mem_iff_getElem.1 hm;have hi2 : i < s.size := hi;have := h.2.2 i hi2;have e2 : s[i] = 32 := (by rw [← he]; rfl);rw [e2] at this;unfold ie at this;rw [decide_eq_true_iff] at this;have h32 : (32 : UInt8).toNat = 32 := rfl;rw [h32] at this;omega
theorem CL {a : ak} (h : gh a = 0) : fL (eA a) := by
 unfold eA;rcases gR h with ⟨h1, h2⟩ | ⟨h1, h2⟩ | ⟨h1, h2⟩
 ·rw [if_pos h1];have := cI h2;exact mX this.1 this.2
 ·rw [h1, if_neg (by decide), if_pos rfl];exact E9 h2
 rw [h1, if_neg (by decide), if_neg (by decide)];refine ⟨by simp, ?_⟩;have := CW h2;simp [this]
theorem Bv {aa : Int} {l : List ak} : ∀ i, (∀ a ∈ l, gh a = 0) → ∀ x ∈ eU aa i l, fL x := by
 induction l with
 | nil =>
  intro i _ x hx;unfold eU at hx;split at hx
  ·simp at hx;subst hx;exact ⟨by simp, by decide⟩
  cases hx
 | cons a l ih =>
  intro i h x hx;unfold eU at hx;rcases List.mem_append.1 hx with hx | hx
  ·split at hx
   ·simp at hx;subst hx;exact ⟨by simp, by decide⟩
   cases hx
  rcases List.mem_cons.1 hx with rfl | hx;exact CL (h a (by simp));exact ih (i + 1) (fun y hy => h y (by simp [hy])) x hx
theorem gu {aa : Int} {l : List ak} (h : aM l = 0) : ∀ x ∈ cN l aa, fL x := Bv 0 (dN h).2
theorem vG {s : bk} (h1 : aM s.before = 0) (h2 : aM s.source = 0) (h3 : aM s.after = 0) : ∀ x ∈ dB s, fL x := by
 intro x hx;have one : ∀ c : UInt8, c ≠ 32 → x ∈ [[c]] → fL x := by
  intro c hc hm;simp at hm;subst hm;exact gS c hc
 have opt : ∀ {p : Prop} [Decidable p] (c : UInt8), c ≠ 32 → x ∈ (if p then [[c]] else []) → fL x := by
  intro p _ c hc hm;split at hm;exact one c hc hm;cases hm
 have Ue : ∀ {p : Prop} [Decidable p] (c : UInt8), c ≠ 32 → x ∈ (if p then [] else [[c]]) → fL x := by
  intro p _ c hc hm;split at hm
  ·cases hm
  exact one c hc hm
 unfold dB at hx;dsimp only at hx;rcases List.mem_append.1 hx with hx | hx
 ·rcases List.mem_append.1 hx with hx | hx
  ·rcases List.mem_append.1 hx with hx | hx
   ·rcases List.mem_append.1 hx with hx | hx
    ·rcases List.mem_append.1 hx with hx | hx;exact opt 94 (by decide) hx;exact gu h1 x hx
    exact Ue 123 (by decide) hx
   exact gu h2 x hx
  split at hx
  ·rcases List.mem_cons.1 hx with rfl | hx;exact gS _ (by decide);exact gu h3 x hx
  cases hx
 exact opt 36 (by decide) hx
theorem Lr {t : List UInt8} (a b : List UInt8) (ha : ∀ x ∈ a, x = 32) (hb : ∀ x ∈ b, x = 32) (h1 : ∀ x, t.head? = some x → x ≠ 32) (h2 : ∀ x, t.getLast? = some x → x ≠ 32) (ht : t ≠ []) : Lib.trimB (a ++ t ++ b) 32 = t := by
 have hr : Lib.trimRightB (a ++ t ++ b) 32 = a ++ t := by
  rw [Lib.trimRightB_take (a ++ t ++ b) 32 (a ++ t).length (by simp) (fun j x hj hx => ?_) (fun x h0 hx => ?_)];exact List.take_left
  ·rw [List.getElem?_append_right hj] at hx;exact hb x (List.mem_of_getElem? hx)
  rw [List.getElem?_append_left (by omega), List.getElem?_append_right (by rw [List.length_append]; have := List.length_pos_iff.2 ht; omega)] at hx;refine h2 x ?_;rw [List.getLast?_eq_getElem?, ← hx];congr 1;rw [List.length_append];omega
 unfold Lib.trimB;rw [hr, Lib.trimLeftB_drop (a ++ t) 32 a.length (by simp) (fun j x hj hx => ?_) (fun x hx => ?_)];exact List.drop_left
 ·rw [List.getElem?_append_left hj] at hx;exact ha x (List.mem_of_getElem? hx)
 rw [List.getElem?_append_right (Nat.le_refl _), Nat.sub_self, ← List.head?_eq_getElem?] at hx;exact h1 x hx
theorem H7 {x : Word} {l : List Word} (h : fL x) : ∀ c, (J (x :: l)).head? = some c → c ≠ 32 := by
 intro c hc he;subst he;rw [J, Lib.join_cons] at hc;cases x with
 | nil => exact h.1 rfl
 | cons y x =>
  simp at hc;subst hc;exact h.2 (by simp)
theorem Ig {x : Word} {l : List Word} (h : fL x) : ∀ c, (J (l ++ [x])).getLast? = some c → c ≠ 32 := by
 intro c hc he;subst he;have hx : x.getLast? = some 32 := by
  by_cases hl : l = []
  ·subst hl;simpa [J, Lib.join_one] using hc
  rw [lK hl (by simp)] at hc;have e : J [x] = x := (by simp [J, Lib.join_one]);rw [e, List.getLast?_append, List.getLast?_cons] at hc;cases hx : x.getLast? with
  | none => rw [List.getLast?_eq_none_iff] at hx; exact absurd hx h.1
  | some y => rw [hx] at hc; simpa using hc
 exact h.2 (List.mem_of_getLast? hx)
theorem ER {A B : List Word} {d : Word} (hA : ∀ x ∈ A, fL x) (hB : ∀ x ∈ B, fL x) (hd : fL d) : Lib.trimB (J [J A, d, J B]) 32 = J (A ++ d :: B) := by
 have e3 : J [J A, d, J B] = J A ++ 32 :: (d ++ 32 :: J B) := (by simp [J, Lib.join_cons, Lib.joinTail]);have edB : J (d :: B) = d ++ (if B = [] then [] else 32 :: J B) := by
  rw [J, Lib.join_cons];by_cases hb : B = []
  ·subst hb; simp [Lib.joinTail]
  rw [if_neg hb, oL hb]
 have U1 : J (A ++ d :: B) = (if A = [] then [] else J A ++ [32]) ++ J (d :: B) := by
  by_cases ha : A = []
  ·subst ha; simp
  rw [if_neg ha, lK ha (by simp)]; simp
 have e : J [J A, d, J B] = (if A = [] then [32] else []) ++ J (A ++ d :: B) ++ (if B = [] then [32] else []) := by
  rw [e3, U1, edB];by_cases ha : A = [] <;> by_cases hb : B = [] <;> simp [ha, hb, J, Lib.join_nil]
 rw [e];refine Lr _ _ (by intro x hx; split at hx <;> simp at hx; exact hx) (by intro x hx; split at hx <;> simp at hx; exact hx) ?_ ?_ ?_
 ·cases A with
  | nil => exact H7 hd
  | cons x A => exact H7 (hA x (by simp))
 ·rcases List.eq_nil_or_concat B with hb | ⟨B', y, hb⟩
  ·subst hb;exact Ig hd
  subst hb;have := Ig (l := A ++ d :: B') (hB y (by simp));simpa using this
 intro h0;have : J (A ++ d :: B) ≠ [] := RH (by
  intro x hx;rcases List.mem_append.1 hx with hx | hx;exact hA x hx;rcases List.mem_cons.1 hx with rfl | hx;exact hd;exact hB x hx) (by simp)
 exact this h0
theorem Nh {l : List Word} (h : l ≠ []) : l.flatMap (fun w => w ++ [32]) = J l ++ [32] := by
 induction l with
 | nil => exact absurd rfl h
 | cons a r ih =>
  by_cases hr : r = []
  ·subst hr;simp [J, Lib.join_one]
  rw [List.flatMap_cons, ih hr, show J (a :: r) = a ++ Lib.joinTail [32] r from Lib.join_cons _ _ _, oL hr];simp
end Go.Proofs.YthnhbcohfoodlaaGreatDoor
namespace Go.Proofs.YthnhbcohfoodlaaGreatDoor
open Go.RowKit
theorem wX (l : List ak) : ∀ i : Nat, (eU (-1) i l).length = l.length := by
 induction l with
 | nil => intro i; unfold eU; rw [if_neg (by omega)]; rfl
 | cons a l ih =>
  intro i;unfold eU;rw [if_neg (by omega)];simp [ih (i + 1)]
theorem oH {l : List ak} {aa : Int} (h : aM l = 0) : (cN l aa).length ≤ 41 := by
 obtain ⟨h1, h2⟩ := dN h;have := (iO aa l 0 h2).1;unfold cN;omega
end Go.Proofs.YthnhbcohfoodlaaGreatDoor
