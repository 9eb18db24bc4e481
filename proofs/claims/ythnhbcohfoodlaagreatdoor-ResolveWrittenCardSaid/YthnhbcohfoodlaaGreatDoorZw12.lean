/- ConcatS + BareD + cz + FileZero -/
import Derived.Test.YthnhbcohfoodlaaGreatDoorZw11
import Derived.Lib.AppendZeros
import Derived.Lib.SliceRun
import Derived.Test.YthnhbcohfoodlaaGreatDoorZw9
import Derived.Test.YthnhbcohfoodlaaGreatDoorZw10
set_option maxHeartbeats 1600000
set_option maxRecDepth 100000
namespace Go.Proofs.YthnhbcohfoodlaaGreatDoor
open Go.RowKit
def K9 (w : World) (outs : List af) (us : List Value) : Prop := ∀ (i : Nat) (l : af) (u : Value), outs[i]? = some l → us[i]? = some u → ∃ A n c, u = .slice A n c ∧ Rd w w.heap.size 2 A n (ah l)
theorem K9.below {w w' : World} {outs : List af} {us : List Value} (h : K9 w outs us) (hb : Below w.heap.size w w') : K9 w' outs us := by
 intro i l u h1 h2;obtain ⟨A, n, c, e, hr⟩ := h i l u h1 h2;exact ⟨A, n, c, e, (Rd.below hr hb).more hb.size⟩
theorem BO (A : Option Addr) (n c : Nat) (l : af) (w : World) (hn : n ≤ 100000) (hl : kW w w.heap.size A n l) :
    Calls Tryz.prog 89 #[.slice A n c] w fun e w' => (∃ v, e = .returned v ∧ w'.ownsRow w.heap.size 74 2 v n (ah l)) ∧ Below w.heap.size w w' := by
 obtain ⟨i0, hi, z0, z1, z2⟩ := info_parts jc;have Wv := Lib.hid (fun W => Lib.run_eql_slice_nil (P := Tryz.prog) W 22 74 A n c 0 0 Tryz.underlying22);have HL := Lib.hid hl;cases A with
 | none =>
  have h0 : n = 0 := by
   rcases Nat.eq_zero_or_pos n with h | h;exact h;obtain ⟨b, o, e, _⟩ := hl.2 h;cases e
  subst h0;have GQ : l = [] := List.eq_nil_of_length_eq_zero hl.len;subst GQ;have heq := fun W => Wv.out W;simp only [Option.isNone_none] at heq;clear hl;go_enter Tryz.func89, Tryz.ntmps89;go_wp2_with fail;go_ret;exact ⟨⟨_, rfl, World.ownsRow_nil _ _ _ _⟩, Below.refl _ _⟩
 | some a =>
  have heq := fun W => Wv.out W;simp only [Option.isNone_some] at heq;have XO := Lib.hid (xW w 74 2 w.heap.size w.heap.size rfl (Nat.le_refl _));have hba := (Below.refl w.heap.size w).alloc (Nat.le_refl _) (.cells #[] 74);have Ow := Lib.hid hba;have nE := Lib.hid ((Rd.below hl hba).more hba.size);clear hba hl;go_enter Tryz.func89, Tryz.ntmps89;go_wp2_with (at_builtin; refine ax _ rfl (.tmp 5) (.tmp 6) 22 rfl w.heap.size 74 i0 _ 2 8 Tryz.underlying22 hi z0 z1 z2 rfl (by decide) _ _ _ rfl XO.out _ (some a) n c (ah l) rfl nE.out (kR _) (by simp only [maxLen]; omega) (by omega) (by simp) ?_);intro v1 w3 aB;have dQ := Lib.hid (Ow.out.trans (aB.below (by simp) XO.out));have tg := Lib.hid aB.own;clear aB heq;go_wp2_with fail;go_ret;exact ⟨⟨_, rfl, by simpa using tg.out⟩, dQ.out⟩
theorem Cj (n : Nat) (w : World) (hn : n ≤ 100000) :
    Calls Tryz.prog 94 #[.slice none 0 0, .int .i64 n] w fun e w' => (∃ v, e = .returned v ∧ w'.ownsRow w.heap.size 74 2 v 0 []) ∧ Below w.heap.size w w' := by
 obtain ⟨i0, hi, z0, z1, z2⟩ := info_parts jc;by_cases h0 : n = 0
 ·subst h0;go_enter Tryz.func94, Tryz.ntmps94;go_wp2_with fail;go_ret;exact ⟨⟨_, rfl, World.ownsRow_nil _ _ _ _⟩, Below.refl _ _⟩
 have hrun := Lib.run_append_nil_zeros (P := Tryz.prog) w 22 3 22 74 i0 (.agg #[.int .i32 0, .int .i32 0]) .i64 .i64 Tryz.underlying22 Tryz.underlying3 hi z0 n (by omega) (by omega) (by omega) (by rw [z2]; omega);generalize hcap : grownCap w n 0 74 = cap at hrun;have aas : n ≤ cap := (by rw [← hcap]; exact grownCap_ge w _ 0 74);have Ui : cap ≤ maxLen := (by rw [← hcap]; exact grownCap_le_maxLen w _ 0 74 (by simp only [maxLen]; omega));generalize hZ : (Builtin.zeroCells (Value.agg #[.int .i32 0, .int .i32 0]).cells n ++ Builtin.zeroCells (Value.agg #[.int .i32 0, .int .i32 0]).cells (cap - n)) = Z at hrun;have SX : Z.size = cap * 2 := (by rw [← hZ]; simp [size_zeroCells, Value.cells]; omega);have HR := Lib.hid hrun
 have HO := Lib.hid (show (w.drew.alloc (.cells Z 74)).ownsRow w.heap.size 74 2 (.slice (some ⟨w.heap.size, 0, none⟩) 0 cap) 0 [] from
   ⟨rfl, .inr ⟨w.heap.size, cap, Z, rfl, Nat.le_refl _, heap_alloc_new w.drew _, Nat.zero_le _, Ui, by omega, by simp⟩⟩)
 have HB := Lib.hid (show Below w.heap.size w (w.drew.alloc (.cells Z 74)) from ((Below.refl w.heap.size w).drew).alloc (Nat.le_refl _) _);clear hcap hZ SX hrun;go_enter Tryz.func94, Tryz.ntmps94;go_wp2_with (at_builtin; refine Lib.wpList_append_run _ rfl (.tmp 20) (.tmp 21) _ _ rfl (.slice none 0 0) (.int .i64 n) rfl rfl _ _ HR.out ?_);go_wp2_with fail;go_ret;exact ⟨⟨_, rfl, HO.out⟩, HB.out⟩
theorem oP {outs : List af} {k : Nat} {x : af} (h : outs[k]? = some x) : (outs.take (k + 1)).flatten = (outs.take k).flatten ++ x := by
 rw [List.take_add_one, h];simp
theorem qD (outs : List af) (k : Nat) : (outs.take k).flatten.length ≤ outs.flatten.length := by
 have h := congrArg (fun z : List af => z.flatten.length) (List.take_append_drop k outs);simp only [List.flatten_append, List.length_append] at h;omega
def Pb (w : World) (outs : List af) (m : Nat) (s3 i : Value) (wr : World) : Prop :=
  ∃ k : Nat, k ≤ m ∧ i = .int .i64 k ∧ s3 = .int .i64 (outs.take k).flatten.length ∧ w = wr
def MQ (w : World) (outs : List af) (m : Nat) (s6 i : Value) (wr : World) : Prop :=
  ∃ (k N : Nat), k ≤ m ∧ i = .int .i64 k ∧ (outs.take k).flatten.length = N ∧ wr.ownsRow w.heap.size 74 2 s6 N (ah (outs.take k).flatten) ∧ Below w.heap.size w wr
theorem ze (outs : List af) (us : List Value) (A : Option Addr) (m c : Nat) (w : World) (hlen : outs.length = m) (hrd : Rd w w.heap.size 1 A m us) (hpc : K9 w outs us) (hsum : outs.flatten.length ≤ 100000) (hm : m ≤ 100000) :
    Calls Tryz.prog 51 #[.slice A m c] w fun e w' => (∃ v, e = .returned v ∧ w'.ownsRow w.heap.size 74 2 v outs.flatten.length (ah outs.flatten)) ∧ Below w.heap.size w w' := by
 obtain ⟨i0, hi, z0, z1, z2⟩ := info_parts jc;have bY := Lib.hid hlen;have tT := Lib.hid hrd;have OP := Lib.hid hpc;have XK := Lib.hid (show us.length = m by have := hrd.1; omega);have Kt := Lib.hid hsum;clear hlen hrd hpc hsum;go_enter Tryz.func51, Tryz.ntmps51;go_wp2_with fail;go_loopw [3, 11] (Pb w outs m) (fun _ i _ => m - (intOf i).toNat);(case atStart => exact ⟨0, Nat.zero_le _, rfl, rfl, rfl⟩);obtain ⟨k, hk, rfl, rfl, rfl⟩ := hrel;obtain ⟨S, hS⟩ : ∃ S, (outs.take k).flatten.length = S := ⟨_, rfl⟩;have hS1 : S ≤ 100000 := (by have := qD outs k; have := Kt.out; omega);by_cases hlt : k < m
 ·obtain ⟨x, hx⟩ : ∃ x, outs[k]? = some x := ⟨_, List.getElem?_eq_getElem (by rw [bY.out]; exact hlt)⟩;obtain ⟨u, hu⟩ : ∃ u, us[k]? = some u := ⟨_, List.getElem?_eq_getElem (by rw [XK.out]; exact hlt)⟩;obtain ⟨P, n1, c1, rfl, hr⟩ := OP.out k x u hx hu;obtain ⟨b, o, rfl, _, hc⟩ := tT.out.2 (by omega);have u0 := hc _ _ hu;have mH := hr.1;rw [bD] at mH;have SG := Lib.hid (show (outs.take (k + 1)).flatten.length = S + n1 by rw [oP hx, List.length_append, hS]; omega);have Mn : S + n1 ≤ 100000 := (by have := SG.out; have := qD outs (k + 1); have := Kt.out; omega);have hk0 : (0 : Int) ≤ (k : Int) := (by omega);have SS : decide ((S : Int) + (n1 : Int) < 0) = false := decide_eq_false (by omega);rw [hS];clear hx hu hr hc mH hS;go_wp2_with fail;exact ⟨⟨k + 1, by omega, by go_num, by rw [SG.out]; go_num, rfl⟩, by simp [intOf]; omega⟩
 obtain rfl : k = m := (by omega);rw [List.take_of_length_le (by rw [bY.out]; exact Nat.le_refl _)] at hS ⊢;have HS := Lib.hid hS;rw [hS];clear hS;go_wp2_with fail;refine (Cj S _ hS1).mono ?_;rintro e w1 ⟨⟨v, rfl, ho⟩, bt⟩;have HO := Lib.hid ho;have HB := Lib.hid bt;obtain ⟨A1, c1, rfl, _⟩ := aT ho;clear ho bt;go_wp2_with fail;go_loopw [6, 27] (MQ w outs k) (fun _ i _ => k - (intOf i).toNat);(case atStart => exact ⟨0, 0, Nat.zero_le _, rfl, rfl, HO.out, HB.out⟩);obtain ⟨j, N, hj, rfl, hN, ho, hb⟩ := hrel;have HO := Lib.hid ho;have HB := Lib.hid hb;have HN := Lib.hid hN;have hz := hb.size;have Sw : N ≤ 100000 := (by have := qD outs j; have := Kt.out; omega);obtain ⟨A2, c2, rfl, _⟩ := aT ho;clear ho hN;by_cases hlt : j < k
 ·obtain ⟨x, hx⟩ : ∃ x, outs[j]? = some x := ⟨_, List.getElem?_eq_getElem (by rw [bY.out]; exact hlt)⟩;obtain ⟨u, hu⟩ : ∃ u, us[j]? = some u := ⟨_, List.getElem?_eq_getElem (by rw [XK.out]; exact hlt)⟩;obtain ⟨P, n1, Sb, rfl, hr⟩ := (OP.out.below hb) j x u hx hu;obtain ⟨b, o, rfl, eD, hc⟩ := (Rd.below tT.out hb).2 (by omega);have u0 := hc _ _ hu;have mH := hr.1;rw [bD] at mH;have SG := Lib.hid (oP hx);have Gj := Lib.hid (show (outs.take (j + 1)).flatten.length = N + n1 by rw [oP hx, List.length_append, HN.out]; omega);have Mn : N + n1 ≤ 100000 := (by have := Gj.out; have := qD outs (j + 1); have := Kt.out; omega);have HR := Lib.hid hr;clear hx hu hr hc mH hb;go_wp2_with (at_builtin; refine ax _ rfl (.tmp 31) (.tmp 32) 22 rfl w.heap.size 74 i0 _ 2 8 Tryz.underlying22 hi z0 z1 z2 rfl (by decide) _ N _ rfl HO.out _ P n1 Sb (ah x) rfl HR.out (kR _) (by simp only [maxLen]; omega) (by omega) hz ?_);intro v' w9 aB;have iR := Lib.hid (HB.out.trans (aB.below hz HO.out));have kB := Lib.hid (show w9.ownsRow w.heap.size 74 2 v' (N + n1) (ah (outs.take (j + 1)).flatten) by rw [SG.out, uI]; exact aB.own);clear aB;go_wp2_with fail;exact ⟨⟨j + 1, N + n1, by omega, by go_num, Gj.out, kB.out, iR.out⟩, by simp [intOf]; omega⟩
 obtain rfl : j = k := (by omega);have HF := Lib.hid (show wr.ownsRow w.heap.size 74 2 (.slice A2 N c2) outs.flatten.length (ah outs.flatten) by
  have h1 := HO.out;have h2 := HN.out;rw [List.take_of_length_le (by rw [bY.out]; exact Nat.le_refl _)] at h1 h2;rw [h2];exact h1)
 clear hb;go_wp2_with fail;go_ret;exact ⟨⟨_, rfl, HF.out⟩, HB.out⟩
def bZ (a : ak) : ak := ⟨a.kind, if a.kind = 1 then a.rune else 0, if a.kind = 2 then a.set else [], if a.kind = 3 then a.name else ⟨#[]⟩⟩
def bh (s : bk) : bk := ⟨s.start, s.fin, s.before.map bZ, s.source.map bZ, s.after.map bZ, s.aa⟩
def ox : bk := ⟨false, false, [], [], [], 0⟩
def bL (p : ay) : ay := ⟨p.kind, if p.kind = 1 ∨ p.kind = 4 then p.name else ⟨#[]⟩, if p.kind = 1 ∨ p.kind = 3 then p.set else [], if p.kind = 2 then p.dir else 0, if p.kind = 2 then bh p.left else ox, if p.kind = 2 then bh p.right else ox⟩
def gJ (w : World) (X : Nat → Prop) (a : ak) (cs : List Value) : Prop :=
  ∃ A n c, cs = [.int .i64 a.kind, .int .i32 a.rune, .slice A n c, .string a.name] ∧ fl w X 2 A n (ah a.set) ∧ n ≤ maxLen ∧ fN a.kind ∧ a.name.size ≤ maxLen
def eF (w : World) (X : Nat → Prop) (A : Option Addr) (n : Nat) (l : List ak) : Prop := eC (gJ w X) w X 4 A n l
def lz (w : World) (X : Nat → Prop) (s : bk) (cs : List Value) : Prop :=
  ∃ A1 n1 c1 A2 n2 c2 A3 n3 c3, cs = [.bool s.start, .bool s.fin, .slice A1 n1 c1, .slice A2 n2 c2, .slice A3 n3 c3, .int .i64 s.aa] ∧
    eF w X A1 n1 s.before ∧ eF w X A2 n2 s.source ∧ eF w X A3 n3 s.after ∧ n1 ≤ maxLen ∧ n2 ≤ maxLen ∧ n3 ≤ maxLen ∧ fN s.aa
def cz (w : World) (X : Nat → Prop) (p : ay) (cs : List Value) : Prop :=
  ∃ A n c ls rs, cs = [.int .i64 p.kind, .string p.name, .slice A n c, .int .i64 p.dir] ++ ls ++ rs ∧ fl w X 2 A n (ah p.set) ∧ n ≤ maxLen ∧ lz w X p.left ls ∧ lz w X p.right rs ∧ fN p.kind ∧ fN p.dir ∧ p.name.size ≤ maxLen
def eG (w : World) (X : Nat → Prop) (A : Option Addr) (n : Nat) (l : List ay) : Prop := eC (cz w X) w X 16 A n l
section
variable {w w' : World} {X X' : Nat → Prop} (hk : ag w X w' X')
include hk
theorem gJ.keep {a : ak} {cs : List Value} (h : gJ w X a cs) : gJ w' X' a cs := by
 obtain ⟨A, n, c, e, h1, h2⟩ := h;exact ⟨A, n, c, e, h1.keep hk, h2⟩
theorem eF.keep {A : Option Addr} {n : Nat} {l : List ak} (h : eF w X A n l) : eF w' X' A n l := eC.keep hk (fun _ _ => gJ.keep hk) h
theorem lz.keep {s : bk} {cs : List Value} (h : lz w X s cs) : lz w' X' s cs := by
 obtain ⟨A1, n1, c1, A2, n2, c2, A3, n3, c3, e, h1, h2, h3, h4⟩ := h;exact ⟨A1, n1, c1, A2, n2, c2, A3, n3, c3, e, h1.keep hk, h2.keep hk, h3.keep hk, h4⟩
theorem cz.keep {p : ay} {cs : List Value} (h : cz w X p cs) : cz w' X' p cs := by
 obtain ⟨A, n, c, ls, rs, e, h1, h2, h3, h4, h5⟩ := h;exact ⟨A, n, c, ls, rs, e, h1.keep hk, h2, h3.keep hk, h4.keep hk, h5⟩
theorem eG.keep {A : Option Addr} {n : Nat} {l : List ay} (h : eG w X A n l) : eG w' X' A n l := eC.keep hk (fun _ _ => cz.keep hk) h
end
section
variable {α : Type} {w : World} {B sz n : Nat} {A : Option Addr}
theorem eC.kN {R R' : α → List Value → Prop} {l : List α} (hB : B ≤ w.heap.size) (hR : ∀ a cs, R a cs → R' a cs) (h : iE R w B sz A n l) : eC R' w (· < B) sz A n l := by
 obtain ⟨css, h1, h2, h3, h4, h5⟩ := h;exact ⟨css, h1, h2, fun i a cs ha hc => hR a cs (h3 i a cs ha hc), h4, fl.kN h5 hB (fun _ h => h)⟩
theorem gJ.E5 (hB : B ≤ w.heap.size) {a : ak} {cs : List Value} (h : qo w B a cs) : gJ w (· < B) a cs := by
 obtain ⟨A, n, c, e, h1, h2⟩ := h;exact ⟨A, n, c, e, fl.kN h1 hB (fun _ h => h), h2⟩
theorem eF.kN (hB : B ≤ w.heap.size) {l : List ak} (h : bF w B A n l) : eF w (· < B) A n l := eC.kN hB (fun _ _ => gJ.E5 hB) h
theorem lz.E5 (hB : B ≤ w.heap.size) {s : bk} {cs : List Value} (h : mW w B s cs) : lz w (· < B) s cs := by
 obtain ⟨A1, n1, c1, A2, n2, c2, A3, n3, c3, e, h1, h2, h3, h4⟩ := h;exact ⟨A1, n1, c1, A2, n2, c2, A3, n3, c3, e, .kN hB h1, .kN hB h2, .kN hB h3, h4⟩
theorem cz.E5 (hB : B ≤ w.heap.size) {p : ay} {cs : List Value} (h : pM w B p cs) : cz w (· < B) p cs := by
 obtain ⟨A, n, c, ls, rs, e, h1, h2, h3, h4, h5⟩ := h;exact ⟨A, n, c, ls, rs, e, fl.kN h1 hB (fun _ h => h), h2, .E5 hB h3, .E5 hB h4, h5⟩
theorem eG.kN (hB : B ≤ w.heap.size) {l : List ay} (h : rX w B A n l) : eG w (· < B) A n l := eC.kN hB (fun _ _ => cz.E5 hB) h
variable {X : Nat → Prop}
theorem eC.rd {R R' : α → List Value → Prop} {l : List α} (hR : ∀ a cs, R a cs → R' a cs) (h : eC R w X sz A n l) : iE R' w w.heap.size sz A n l := by
 obtain ⟨css, h1, h2, h3, h4, h5⟩ := h;exact ⟨css, h1, h2, fun i a cs ha hc => hR a cs (h3 i a cs ha hc), h4, h5.rd (fun _ _ h => h)⟩
theorem gJ.rd {a : ak} {cs : List Value} (h : gJ w X a cs) : qo w w.heap.size a cs := by
 obtain ⟨A, n, c, e, h1, h2⟩ := h;exact ⟨A, n, c, e, h1.rd (fun _ _ h => h), h2⟩
theorem eF.rd {l : List ak} (h : eF w X A n l) : bF w w.heap.size A n l := eC.rd (fun _ _ => gJ.rd) h
theorem lz.rd {s : bk} {cs : List Value} (h : lz w X s cs) : mW w w.heap.size s cs := by
 obtain ⟨A1, n1, c1, A2, n2, c2, A3, n3, c3, e, h1, h2, h3, h4⟩ := h;exact ⟨A1, n1, c1, A2, n2, c2, A3, n3, c3, e, h1.rd, h2.rd, h3.rd, h4⟩
theorem cz.rd {p : ay} {cs : List Value} (h : cz w X p cs) : pM w w.heap.size p cs := by
 obtain ⟨A, n, c, ls, rs, e, h1, h2, h3, h4, h5⟩ := h;exact ⟨A, n, c, ls, rs, e, h1.rd (fun _ _ h => h), h2, h3.rd, h4.rd, h5⟩
theorem eG.rd {l : List ay} (h : eG w X A n l) : rX w w.heap.size A n l := eC.rd (fun _ _ => cz.rd) h
theorem gJ.one {a : ak} {cs : List Value} (h : gJ w X a cs) : cs.length = 4 ∧ ∀ u ∈ cs, u.oneCell' = true := by
 obtain ⟨A, n, c, rfl, _⟩ := h;refine ⟨rfl, fun u hu => ?_⟩;simp at hu;rcases hu with rfl | rfl | rfl | rfl <;> rfl
theorem cz.one {p : ay} {cs : List Value} (h : cz w X p cs) : cs.length = 16 ∧ ∀ u ∈ cs, u.oneCell' = true := by
 obtain ⟨A, n, c, ls, rs, rfl, _, _, ⟨A1, n1, c1, A2, n2, c2, A3, n3, c3, rfl, _⟩, ⟨B1, m1, d1, B2, m2, d2, B3, m3, d3, rfl, _⟩, _⟩ := h;refine ⟨rfl, fun u hu => ?_⟩;simp at hu;rcases hu with rfl | rfl | rfl | rfl | rfl | rfl | rfl | rfl | rfl | rfl | rfl | rfl | rfl | rfl | rfl | rfl <;> rfl
theorem cz.form {q : ay} {cs : List Value} (h : cz w X q cs) : ∃ A' n' c' L1 a1 x1 L2 a2 x2 L3 a3 x3 R1 b1 y1 R2 b2 y2 R3 b3 y3, cs = [.int .i64 q.kind, .string q.name, .slice A' n' c', .int .i64 q.dir, .bool q.left.start, .bool q.left.fin, .slice L1 a1 x1, .slice L2 a2 x2, .slice L3 a3 x3, .int .i64 q.left.aa, .bool q.right.start, .bool q.right.fin, .slice R1 b1 y1, .slice R2 b2 y2, .slice R3 b3 y3, .int .i64 q.right.aa] := by
 obtain ⟨A, n, c, ls, rs, rfl, _, _, ⟨A1, n1, c1, A2, n2, c2, A3, n3, c3, rfl, _⟩, ⟨B1, m1, d1, B2, m2, d2, B3, m3, d3, rfl, _⟩, _⟩ := h;exact ⟨A, n, c, A1, n1, c1, A2, n2, c2, A3, n3, c3, B1, m1, d1, B2, m2, d2, B3, m3, d3, rfl⟩
theorem fl.nil (sz : Nat) : fl w X sz none 0 [] := ⟨by simp, fun h => absurd h (Nat.lt_irrefl 0)⟩
theorem eF.nil : eF w X none 0 [] := ⟨[], rfl, rfl, by simp, by simp, fl.nil 4⟩
theorem gV : lz w X ox [.bool false, .bool false, .slice none 0 0, .slice none 0 0, .slice none 0 0, .int .i64 0] :=
  ⟨none, 0, 0, none, 0, 0, none, 0, 0, rfl, eF.nil, eF.nil, eF.nil, Nat.zero_le _, Nat.zero_le _, Nat.zero_le _, by unfold fN ox; dsimp only; omega⟩
end
def rC (B lo : Nat) (v : Value) (b : Nat) : Prop := b < B ∨ (lo ≤ b ∧ v.ownBlock ≠ some b)
theorem KS {B lo sz n0 m : Nat} {e : TypeId} {v v' : Value} {xs ys : List Value} {w w2 : World} (hB : B ≤ lo) (ho : w.ownsRow lo e sz v n0 xs) (ha : bg lo e sz v w m ys v' w2) : ag w (rC B lo v) w2 (rC B lo v') := by
 refine ag.app ha (fun b hb => ?_) (fun b hb hl => ?_)
 ·rcases hb with h | h
  ·intro e;have := (bM ho e).1;omega
  exact h.2
 rcases hb with h | h;exact .inl h;refine .inr ⟨h.1, ?_⟩;rcases ha.2.2 with e | e
 ·rw [e]; exact h.2
 rw [e];intro h;injection h with h;omega
theorem Jj : (Tryz.prog.info? 114).map (fun i => (i.zero, i.size, i.bytes)) = some (some (.agg #[.int .i64 0, .int .i32 0, .slice none 0 0, .string ⟨#[]⟩]), 4, 56) := by kernel_rfl
theorem xP : (Tryz.prog.info? 98).map (fun i => (i.zero, i.size, i.bytes)) = some (some (.agg #[.int .i64 0, .string ⟨#[]⟩, .slice none 0 0, .int .i64 0, .bool false, .bool false, .slice none 0 0, .slice none 0 0, .slice none 0 0, .int .i64 0, .bool false, .bool false, .slice none 0 0, .slice none 0 0, .slice none 0 0, .int .i64 0]), 16, 232) := by kernel_rfl
theorem C' {l : List ay} (h : ∀ p ∈ l, dm p = 0) : ∀ i, jr i l = (0, 0) := by
 induction l with
 | nil => intro i; rfl
 | cons p l ih =>
  intro i;rw [jr, if_pos (h p (by simp)), ih (fun q hq => h q (by simp [hq]))]
theorem rq {l : List ay} : (bN l).1 = 0 ↔ l.length ≤ 200 ∧ ∀ p ∈ l, dm p = 0 := by
 constructor
 ·intro h;obtain ⟨h1, _, h3⟩ := qA h;exact ⟨h1, h3⟩
 intro ⟨h1, h2⟩;unfold bN;rw [if_neg (by omega), C' h2]
end Go.Proofs.YthnhbcohfoodlaaGreatDoor
