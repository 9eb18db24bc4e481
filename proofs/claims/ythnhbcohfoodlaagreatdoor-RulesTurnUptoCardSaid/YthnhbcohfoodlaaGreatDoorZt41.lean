/- CurSet -/
import Derived.Test.YthnhbcohfoodlaaGreatDoorZt40
namespace Go.Proofs.YthnhbcohfoodlaaGreatDoor
open Go.RowKit
theorem CurAt.drew1 {w : World} {C : Nat} {A : Option Addr} {n c : Nat} {L : List Int} {i : Nat} (h : CurAt w C A n c L i) : CurAt w.drew C A n c L i := h.drewN 1
theorem setP_e1 {L : List Int} {lv i : Nat} {e : Int × Nat} (h : needP L i 91 = .error e) : setP' L (lv + 1) i = .error e := by rw [setP', h]
theorem setP_e2 {L : List Int} {lv i a : Nat} {e : Int × Nat} (h : needP L i 91 = .ok a) (h2 : partsP (setP' L lv) L (L.length + 1) (if pk L a = 94 then a + 1 else a) [] = .error e) : setP' L (lv + 1) i = .error e := by rw [setP', h]; simp only; rw [h2]
theorem setP_k {L : List Int} {lv i a k : Nat} {s : Spans} (h : needP L i 91 = .ok a) (h2 : partsP (setP' L lv) L (L.length + 1) (if pk L a = 94 then a + 1 else a) [] = .ok (s, k)) :
 setP' L (lv + 1) i = if pk L a = 94 then (if (opP 94 s []).2 ≠ 0 then .error ((opP 94 s []).2, k) else .ok ((opP 94 s []).1, k)) else .ok (s, k) := by rw [setP', h]; simp only; rw [h2]
theorem part_class {inner : Nat → Rdg Spans} {L : List Int} {j : Nat} (h : pk L j = 91) (h2 : pk L (j + 1) = 58) : partP' inner L j = classP L j := by unfold partP'; rw [if_pos ⟨h, h2⟩]
theorem part_set {inner : Nat → Rdg Spans} {L : List Int} {j : Nat} (h : pk L j = 91) (h2 : pk L (j + 1) ≠ 58) : partP' inner L j = inner j := by unfold partP'; rw [if_neg (fun x => h2 x.2), if_pos h]
theorem part_op {inner : Nat → Rdg Spans} {L : List Int} {j : Nat} (h : pk L j = 38 ∨ pk L j = 45) : partP' inner L j = inner (skipP L (j + 1)) := by
 unfold partP'
 rw [if_neg (fun x => by omega), if_neg (by omega), if_pos h]
theorem part_span {inner : Nat → Rdg Spans} {L : List Int} {j : Nat} (h : pk L j ≠ 91) (h2 : pk L j ≠ 38) (h3 : pk L j ≠ 45) : partP' inner L j = spanS L j := by
 unfold partP' spanS
 rw [if_neg (fun x => h x.1), if_neg h, if_neg (by omega)]
 rfl
theorem SetFr.done {w wr : World} {C P G : Nat} {A : Option Addr} {n c : Nat} {L : List Int} {j : Nat} {s : Spans} (h : SetFr w C P G A n c L j s wr) {B : Option Addr} {m d : Nat} (hG : Blk wr G 22 #[.slice B m d]) : SetPost w C A n c L (.ok (s, j)) (.returned (.slice B m d)) wr := by
 obtain ⟨B0, m0, d0, h1, h2, h3⟩ := h.set
 have e : #[Value.slice B m d] = #[.slice B0 m0 d0] := by
  unfold Blk at hG h1
  rw [hG] at h1
  injection h1 with h1
  injection h1
 have e2 : Value.slice B m d = .slice B0 m0 d0 := by simpa using e
 cases e2
 exact ⟨⟨B, m, d, rfl, h2.lift (fun b hb => hb.2.2.2), h3⟩, h.cur, h.but⟩
theorem blk_set1 {w : World} {G : Nat} {t : TypeId} {v : Value} (h : Blk w G t #[v]) (u : Value) : Blk (w.setCell ⟨G, 0, none⟩ u) G t #[u] := h.put 0 u
def SetLp (w : World) (C P G : Nat) (A : Option Addr) (n c : Nat) (L : List Int) (inner : Nat → Rdg Spans) (Rp : Rdg Spans) (wr : World) : Prop :=
 ∃ f i0 s, Rp = partsP inner L f i0 s ∧ n + 1 ≤ f + i0 ∧ SetFr w C P G A n c L (skipP L i0) s wr
set_option maxHeartbeats 25600000 in
set_option maxRecDepth 100000 in
theorem cur_set (lv : Nat) : ∀ (dd : Nat) (w : World) (C : Nat) (A : Option Addr) (n c : Nat) (L : List Int) (i : Nat), lv + dd = 21 → 1 ≤ dd → CurAt w C A n c L i → ValidL L → n ≤ 100000 →
 Calls Tryz.prog 39 #[.pointer (some ⟨C, 0, none⟩), .int .i64 dd] w (SetPost w C A n c L (setP' L lv i)) := by
 induction lv with
 | zero =>
   intro dd w C A n c L i hd _ h hL hn
   have hs := h.size
   have hdd : decide ((20 : Int) < (dd : Int)) = true := decide_eq_true (by omega)
   have HC0 := Lib.hid (h.below ((Below.refl w.heap.size w).alloc (Nat.le_refl _) (.cells #[.pointer (some ⟨C, 0, none⟩)] 60)))
   have HB0 := Lib.hid (But.below C ((Below.refl w.heap.size w).alloc (Nat.le_refl _) (.cells #[.pointer (some ⟨C, 0, none⟩)] 60)))
   have HP0 := Lib.hid (Blk.new w 60 #[.pointer (some ⟨C, 0, none⟩)])
   have HCL := Lib.hid h.blk.lt
   have p0 := HP0.out.cell 0
   clear h hL
   by_cases h91 : pk L i = 91
   ·have HR := Lib.hid (show setP' L 0 i = .error (4, i) by rw [setP', if_pos h91])
    have HPK1 := Lib.hid (show Calls Tryz.prog 57 #[.pointer (some ⟨C, 0, none⟩)] (w.alloc (.cells #[.pointer (some ⟨C, 0, none⟩)] 60)) fun e w' => e = .returned (.int .i32 91) ∧ CurAt w' C A n c L i ∧ But (w.alloc (.cells #[.pointer (some ⟨C, 0, none⟩)] 60)) C w' by have := cur_peek2 _ C A n c L i HC0.out; rwa [h91] at this)
    have HF := Lib.hid (fun (W : World) => syn_fail 4 i W)
    clear h91
    go_enter Tryz.func39, Tryz.ntmps39
    go_wp2_with fail
    refine HPK1.out.mono ?_
    rintro e w1 ⟨rfl, hc1, hb1⟩
    have HB1 := Lib.hid (HB0.out.trans hb1)
    have c1 := hc1.blk.cell 1
    have p1 : w1.cell? ⟨w.heap.size, 0, none⟩ = some (.pointer (some ⟨C, 0, none⟩)) := (show Blk w1 w.heap.size 60 #[.pointer (some ⟨C, 0, none⟩)] from (hb1.2.2.2.2 w.heap.size HP0.out.lt (by have := HCL.out; omega)).trans HP0.out).cell 0
    clear hb1 hc1 p0
    go_wp2_with fail
    refine (HF.out _).mono ?_
    rintro e w2 ⟨rfl, rfl⟩
    go_wp2_with fail
    rw [HR.out]
    exact ⟨rfl, rfl, HB1.out⟩
   ·have HR := Lib.hid (show setP' L 0 i = .error (2, i) by rw [setP', if_neg h91])
    have HPK1 := Lib.hid (cur_peek2 _ C A n c L i HC0.out)
    have HN := Lib.hid (fun (W : World) (h : CurAt W C A n c L i) => show Calls Tryz.prog 59 #[.pointer (some ⟨C, 0, none⟩), .int .i32 91] W fun e w' => e = thrown 2 i ∧ But W C w' by have := cur_need W C A n c L i 91 h (by decide); rw [needP_not h91] at this; exact this)
    have hq : (pk L i == 91) = false := by simp; exact h91
    go_enter Tryz.func39, Tryz.ntmps39
    go_wp2_with fail
    refine HPK1.out.mono ?_
    rintro e w1 ⟨rfl, hc1, hb1⟩
    have HC1 := Lib.hid hc1
    have HB1 := Lib.hid (HB0.out.trans hb1)
    have p1 : w1.cell? ⟨w.heap.size, 0, none⟩ = some (.pointer (some ⟨C, 0, none⟩)) := (show Blk w1 w.heap.size 60 #[.pointer (some ⟨C, 0, none⟩)] from (hb1.2.2.2.2 w.heap.size HP0.out.lt (by have := HCL.out; omega)).trans HP0.out).cell 0
    clear hb1 hc1 p0
    go_wp2_with fail
    refine (HN.out _ HC1.out).mono ?_
    rintro e w2 ⟨he, hb⟩
    unfold thrown at he
    subst he
    have HBE := Lib.hid (HB1.out.trans hb)
    clear hb
    go_wp2_with fail
    rw [HR.out]
    exact ⟨rfl, rfl, HBE.out⟩
 | succ lv ih =>
   intro dd w C A n c L i hd hd1 h hL hn
   have hs := h.size
   have hlen := h.len
   have HL := Lib.hid hL
   have hdc : ((dd + 1 : Nat) : Int) = (dd : Int) + 1 := by omega
   have HIH := Lib.hid (fun (W : World) (k : Nat) (hc : CurAt W C A n c L k) => show Calls Tryz.prog 39 #[.pointer (some ⟨C, 0, none⟩), .int .i64 ((dd : Int) + 1)] W (SetPost W C A n c L (setP' L lv k)) by have := ih (dd + 1) W C A n c L k (by omega) (by omega) hc hL hn; rwa [hdc] at this)
   have hwd : IntKind.i64.wrap ((dd : Int) + 1) = (dd : Int) + 1 := wrap_small _ (by omega) (by omega)
   clear hdc
   have HPK := Lib.hid (fun (W : World) (k : Nat) (h : CurAt W C A n c L k) => cur_peek2 W C A n c L k h)
   have hdd : decide ((20 : Int) < (dd : Int)) = false := decide_eq_false (by omega)
   have HC0 := Lib.hid (h.below ((Below.refl w.heap.size w).alloc (Nat.le_refl _) (.cells #[.pointer (some ⟨C, 0, none⟩)] 60)))
   have HB0 := Lib.hid (But.below C ((Below.refl w.heap.size w).alloc (Nat.le_refl _) (.cells #[.pointer (some ⟨C, 0, none⟩)] 60)))
   have HP0 := Lib.hid (Blk.new w 60 #[.pointer (some ⟨C, 0, none⟩)])
   have HCL := Lib.hid h.blk.lt
   obtain ⟨R, hR⟩ : ∃ R, setP' L (lv + 1) i = R := ⟨_, rfl⟩
   rw [hR]
   have HR0 := Lib.hid hR
   clear hR h hL ih
   have HN := Lib.hid (cur_need _ C A n c L i 91 HC0.out (by decide))
   cases hnd : needP L i 91 with
   | error e0 =>
     obtain ⟨x, p⟩ := e0
     rw [hnd] at HN
     have HRN := Lib.hid (HR0.out.symm.trans (setP_e1 hnd))
     clear hnd
     go_enter Tryz.func39, Tryz.ntmps39
     have p0 := HP0.out.cell 0
     go_wp2_with fail
     refine HN.out.mono ?_
     rintro e w1 ⟨he, hb⟩
     unfold thrown at he
     subst he
     have HBE := Lib.hid (HB0.out.trans hb)
     clear hb
     go_wp2_with fail
     rw [HRN.out]
     exact ⟨rfl, rfl, HBE.out⟩
   | ok a =>
     rw [hnd] at HN
     have HND := Lib.hid hnd
     have ha : a = i + 1 := (needP_ok hnd).1
     clear hnd
     obtain ⟨ra, hra⟩ : ∃ ra, pk L a = ra := ⟨_, rfl⟩
     have HRA := Lib.hid hra
     have HPA := Lib.hid (fun (W : World) (h : CurAt W C A n c L a) => show Calls Tryz.prog 57 #[.pointer (some ⟨C, 0, none⟩)] W fun e w' => e = .returned (.int .i32 ra) ∧ CurAt w' C A n c L a ∧ But W C w' by have := HPK.out W a h; rwa [hra] at this)
     obtain ⟨st, hst⟩ : ∃ st, (if pk L a = 94 then a + 1 else a) = st := ⟨_, rfl⟩
     have HSTA := Lib.hid hst
     obtain ⟨Rp, hRp⟩ : ∃ Rp, partsP (setP' L lv) L (L.length + 1) st [] = Rp := ⟨_, rfl⟩
     have HRP := Lib.hid hRp
     have HERR := Lib.hid (fun (e : Int × Nat) (he : Rp = .error e) => show R = .error e from HR0.out.symm.trans (setP_e2 HND.out (by rw [hst, hRp]; exact he)))
     have HDONE := Lib.hid (fun (s : Spans) (k : Nat) (he : Rp = .ok (s, k)) => show R = if ra = 94 then (if (opP 94 s []).2 ≠ 0 then .error ((opP 94 s []).2, k) else .ok ((opP 94 s []).1, k)) else .ok (s, k) by have := HR0.out.symm.trans (setP_k HND.out (by rw [hst, hRp]; exact he)); rw [hra] at this; exact this)
     rw [hra] at hst
     have hra94 : a < n ∨ ra ≠ 94 := by
      by_cases h94 : ra = 94
      ·left; rw [← hlen]; exact pk_lt (by omega)
      ·exact .inr h94
     have hale : a ≤ n + 1 := by have := HC0.out.le; omega
     have hw1 : IntKind.i64.wrap ((a : Int) + 1) = (a : Int) + 1 := wrap_small _ (by omega) (by omega)
     clear hra hRp ha
     go_enter Tryz.func39, Tryz.ntmps39
     have p0 := HP0.out.cell 0
     go_wp2_with fail
     refine HN.out.mono ?_
     rintro e w1 ⟨rfl, hc1, hb1⟩
     have HC1 := Lib.hid hc1
     have HB1 := Lib.hid (HB0.out.trans hb1)
     have HP1 := Lib.hid ((hb1.2.2.2.2 w.heap.size HP0.out.lt (by have := HCL.out; omega)).trans HP0.out)
     clear hc1 hb1 p0
     have p0 : w1.cell? ⟨w.heap.size, 0, none⟩ = some (.pointer (some ⟨C, 0, none⟩)) := (show Blk w1 w.heap.size 60 #[.pointer (some ⟨C, 0, none⟩)] from HP1.out).cell 0
     go_wp2_with fail
     refine (HPA.out _ HC1.out).mono ?_
     rintro e w2 ⟨rfl, hc2, hb2⟩
     have HC2 := Lib.hid hc2
     have HB2 := Lib.hid (HB1.out.trans hb2)
     have HP2 := Lib.hid (show Blk w2 w.heap.size 60 #[.pointer (some ⟨C, 0, none⟩)] from (hb2.2.2.2.2 w.heap.size (show Blk w1 w.heap.size 60 #[.pointer (some ⟨C, 0, none⟩)] from HP1.out).lt (by have := HCL.out; omega)).trans HP1.out)
     clear hc2 hb2 p0
     have p0 := HP2.out.cell 0
     have hB20 := HB2.out
     go_upto_if 26 with fail
     go_cut [] (fun wx => CurAt wx C A n c L st ∧ But w C wx ∧ Blk wx w.heap.size 60 #[.pointer (some ⟨C, 0, none⟩)])
     case first =>
      by_cases h94 : ra = 94
      ·subst h94
       rw [if_pos rfl] at hst
       subst hst
       obtain ⟨d1, d2, d3, d4⟩ := HC2.out.step (by omega)
       have HC3 := Lib.hid d3
       have HB3 := Lib.hid (HB2.out.trans d4)
       have HP3 := Lib.hid (show Blk (w2.setCell ⟨C, 1, none⟩ (.int .i64 ((a : Int) + 1))) w.heap.size 60 #[.pointer (some ⟨C, 0, none⟩)] from (d4.2.2.2.2 w.heap.size HP2.out.lt (by have := HCL.out; omega)).trans HP2.out)
       clear d3 d4
       go_wp2_with fail
       go_meet
       exact ⟨HC3.out, HB3.out, HP3.out⟩
      ·rw [if_neg h94] at hst
       have hq : (ra == 94) = false := by simp; exact h94
       subst hst
       go_wp2_with fail
       go_meet
       exact ⟨HC2.out, HB2.out, HP2.out⟩
     case rest =>
      obtain ⟨hcc, hbc, hpc⟩ := hcut
      have HW0 := Lib.hid (show SetFr w C w.heap.size wc.heap.size A n c L st [] (wc.alloc (.cells #[.slice none 0 0] 22)) from by
       have hb := (Below.refl wc.heap.size wc).alloc (Nat.le_refl _) (.cells #[.slice none 0 0] 22)
       exact ⟨hcc.below hb, Blk.alloc hpc _, ⟨none, 0, 0, Blk.new _ _ _, ⟨rfl, fun h => absurd h (by omega)⟩, Nat.le_refl _⟩, right_nil, hbc.trans (But.below C hb), HCL.out, Nat.le_refl _, hbc.1, by have := hpc.lt; omega⟩)
      have p1 := HW0.out.pblk
      have hmf : ∀ (fn : Fn) (first cap : Array Value) (w : World), (Instr.makeFunc fn first cap).run Tryz.prog w = .ok (.func fn first cap) w := fun _ _ _ _ => rfl
      clear hcc hbc hpc p0 HC2 HB2 HP2 HC1 HB1 HP1 HC0 HB0 HP0 HN HPA
      go_wp2_with fail
      refine (cur_skip _ C A n c L st HW0.out.cur).mono ?_
      rintro e w4 ⟨rfl, hc4, hb4⟩
      have HF0 := Lib.hid (HW0.out.keepB hb4 hc4)
      clear hc4 hb4
      go_wp2_with fail
      go_loopw [37] (fun _ wr => SetLp w C w.heap.size wc.heap.size A n c L (setP' L lv) Rp wr) (fun _ wr => n - (match wr.cell? ⟨C, 1, none⟩ with | some (.int _ j) => j.toNat | _ => 0))
      case atStart => exact ⟨L.length + 1, st, [], HRP.out.symm, by omega, HF0.out⟩
      case round =>
       obtain ⟨f0, i0, s, hgo, hf0, hfr⟩ := hrel
       have hi0n : i0 ≤ n := Nat.le_trans (skipP_ge L i0) hfr.cur.le
       obtain ⟨f, rfl⟩ : ∃ f, f0 = f + 1 := ⟨f0 - 1, by omega⟩
       obtain ⟨j, hj⟩ : ∃ j, skipP L i0 = j := ⟨_, rfl⟩
       have hij : i0 ≤ j := by rw [← hj]; exact skipP_ge L i0
       rw [hj] at hfr
       have HX := Lib.hid hfr
       have HM0 := Lib.hid (hfr.cur.blk.cell 1)
       obtain ⟨B, m, d, hgb, _, _⟩ := hfr.set
       have HGB := Lib.hid hgb
       have HJ := Lib.hid hj
       have HGO := Lib.hid hgo
       obtain ⟨r, hr⟩ : ∃ r, pk L j = r := ⟨_, rfl⟩
       have HRJ := Lib.hid hr
       have HPK1 := Lib.hid (fun (W : World) (h : CurAt W C A n c L j) => show Calls Tryz.prog 57 #[.pointer (some ⟨C, 0, none⟩)] W fun e w' => e = .returned (.int .i32 r) ∧ CurAt w' C A n c L j ∧ But W C w' by have := HPK.out W j h; rwa [hr] at this)
       have p2 := hfr.pblk
       have hjn : j ≤ n := hfr.cur.le
       have hjr : r ≠ -1 → j < n := fun h => by rw [← hlen]; exact pk_lt (by rw [hr]; exact h)
       clear hgo hfr hgb hj hr
       by_cases h93 : r = 93
       ·have HEND := Lib.hid (show Rp = .ok (s, j + 1) by rw [HGO.out, partsP_end (by rw [HJ.out, HRJ.out]; exact h93), HJ.out])
        have HRX := Lib.hid (HDONE.out s (j + 1) HEND.out)
        have hjlt := hjr (by omega)
        have hw3 : IntKind.i64.wrap ((j : Int) + 1) = (j : Int) + 1 := wrap_small _ (by omega) (by omega)
        subst h93
        go_wp2_with fail
        refine (HPK1.out _ HX.out.cur).mono ?_
        rintro e w5 ⟨rfl, hc5, hb5⟩
        have HX5 := Lib.hid (HX.out.keepB hb5 hc5)
        have HG5 := Lib.hid (HX.out.gblk hb5 HGB.out)
        have p5 := HX5.out.pblk
        clear hc5 hb5 p2
        obtain ⟨d1, d2, d3, d4⟩ := HX5.out.cur.step hjlt
        have HX6 := Lib.hid (HX5.out.keepB d4 d3)
        have HG6 := Lib.hid (HX5.out.gblk d4 HG5.out)
        clear d3 d4
        by_cases h94 : ra = 94
        ·have hq94 : (ra == 94) = true := by simp; exact h94
         have hrx := HRX.out
         rw [if_pos h94] at hrx
         obtain ⟨tn, x, ho⟩ : ∃ tn x, opP 94 s [] = (tn, x) := ⟨_, _, rfl⟩
         rw [ho] at hrx
         simp only at hrx
         have HRX2 := Lib.hid hrx
         have HTN := Lib.hid (show RightSet tn by have := op_right 94 HX6.out.right right_nil; rwa [ho] at this)
         have HOP := Lib.hid (fun (W : World) (h1 : SetArg W B m d s) => show Calls Tryz.prog 20 #[.slice B m d] W (SetTuple W (tn, x)) by have := sets_not_top B m d s [] W h1; rwa [ho] at this)
         have g6 := HG6.out.cell 0
         clear hrx ho h94
         go_wp2_with fail
         refine (HOP.out _ (HX6.out.arg HG6.out)).mono ?_
         rintro e w7 hp
         obtain ⟨B2, m2, d2', rfl, hf2, hr2, hd2, hb2⟩ := HX6.out.op hp
         have HF2 := Lib.hid hf2
         have HR2 := Lib.hid hr2
         have HG2 := Lib.hid (HG6.out.below hb2 HG6.out.lt)
         clear hp hf2 hr2 hb2
         by_cases hx : x = 0
         ·subst hx
          have hrx := HRX2.out
          rw [if_neg (fun h => h rfl)] at hrx
          have HRX3 := Lib.hid hrx
          clear hrx
          go_wp2_with fail
          refine (keep_ok B2 m2 d2' w.heap.size wc.heap.size _ w7 HG2.out).mono ?_
          rintro e w8 ⟨rfl, hw8⟩
          have HF3 := Lib.hid (HF2.out.put HR2.out hd2 HTN.out)
          have HG3 := Lib.hid (blk_set1 HG2.out (.slice B2 m2 d2'))
          rw [← hw8] at HF3 HG3
          have g8 := HG3.out.cell 0
          clear hw8
          go_wp2_with fail
          go_ret
          rw [HRX3.out]
          exact HF3.out.done HG3.out
         ·have hrx := HRX2.out
          rw [if_pos hx] at hrx
          have HRX3 := Lib.hid hrx
          have HF := Lib.hid (keep_err B2 m2 d2' C w.heap.size wc.heap.size A n c L (j + 1) x w7 hx HF2.out.box HF2.out.cur)
          clear hrx
          go_wp2_with fail
          refine HF.out.mono ?_
          rintro e w8 ⟨he, rfl⟩
          unfold thrown at he
          subst he
          go_wp2_with fail
          rw [HRX3.out]
          exact ⟨rfl, rfl, HF2.out.but⟩
        ·have hq94 : (ra == 94) = false := by simp; exact h94
         have hrx := HRX.out
         rw [if_neg h94] at hrx
         have HRX2 := Lib.hid hrx
         have g6 := HG6.out.cell 0
         clear hrx
         go_wp2_with fail
         go_ret
         rw [HRX2.out]
         exact HX6.out.done HG6.out
       ·have hq93 : (r != 93) = true := by simp; exact h93
        go_wp2_with fail
        refine (HPK1.out _ HX.out.cur).mono ?_
        rintro e w5 ⟨rfl, hc5, hb5⟩
        have HX5 := Lib.hid (HX.out.keepB hb5 hc5)
        have HG5 := Lib.hid (HX.out.gblk hb5 HGB.out)
        have p5 := HX5.out.pblk
        clear hc5 hb5 p2
        go_wp2_with fail
        refine (HPK1.out _ HX5.out.cur).mono ?_
        rintro e w6 ⟨rfl, hc6, hb6⟩
        have HX6 := Lib.hid (HX5.out.keepB hb6 hc6)
        have HG6 := Lib.hid (HX5.out.gblk hb6 HG5.out)
        have p6 := HX6.out.pblk
        clear hc6 hb6 p5
        have H93 := Lib.hid (show pk L (skipP L i0) ≠ 93 by rw [HJ.out, HRJ.out]; exact h93)
        have HPOK := Lib.hid (fun (t : Spans) (j2 : Nat) (h : partP' (setP' L lv) L (skipP L i0) = .ok (t, j2)) => show j < j2 ∧ RightSet t by rw [HJ.out] at h; exact partP_ok (setP_ok HL.out.ok lv) HL.out.ok h)
        clear HX HGB HX5 HG5
        have hg3 : wc.heap.size = wc.heap.size := rfl
        by_cases h91 : r = 91
        ·obtain ⟨r2, hr2⟩ : ∃ r2, pk L (j + 1) = r2 := ⟨_, rfl⟩
         have HR2J := Lib.hid hr2
         have hjr2 : r2 ≠ -1 → j + 1 < n := fun h => by rw [← hlen]; exact pk_lt (by rw [hr2]; exact h)
         have HLK := Lib.hid (fun (W : World) (h : CurAt W C A n c L j) => show Calls Tryz.prog 77 #[.pointer (some ⟨C, 0, none⟩), .int .i64 1] W fun e w' => e = .returned (.int .i32 r2) ∧ CurAt w' C A n c L j ∧ But W C w' by have := cur_look2 W C A n c L j 1 h (by decide); rwa [hr2] at this)
         have OPR := Lib.hid (show opOf (pk L (skipP L i0)) = 124 by rw [HJ.out, HRJ.out, h91]; rfl)
         subst h91
         clear hr2
         by_cases h58 : r2 = 58
         ·have hj2n : j + 2 ≤ n := by have := hjr2 (by omega); omega
          have HPT0 := Lib.hid (fun (W : World) (hc : CurAt W C A n c L j) => cur_class W C A n c L j hc HL.out hj2n hn)
          have HPP := Lib.hid (show partP' (setP' L lv) L (skipP L i0) = classP L j by rw [HJ.out]; exact part_class HRJ.out (by rw [HR2J.out]; exact h58))
          subst h58
          go_wp2_with fail
          refine (HLK.out _ HX6.out.cur).mono ?_
          rintro e w7 ⟨rfl, hc7, hb7⟩
          have HX := Lib.hid (HX6.out.keepB hb7 hc7)
          have HGB := Lib.hid (HX6.out.gblk hb7 HG6.out)
          have p7 := HX.out.pblk
          clear hc7 hb7 p6
          cases hres : classP L j with
          | error e0 =>
            obtain ⟨x, p⟩ := e0
            have HRN := Lib.hid (HERR.out (x, p) (HGO.out.trans (partsP_err H93.out (HPP.out.trans hres))))
            have HPT := Lib.hid (fun (W : World) (hc : CurAt W C A n c L j) => show Calls Tryz.prog 78 #[.pointer (some ⟨C, 0, none⟩)] W (SetPost W C A n c L (.error (x, p))) by have := HPT0.out W hc; rwa [hres] at this)
            clear hres
            go_upto_region 15 with fail
            refine wp_region_till (S := (fun w' => w'.cell? ⟨wc.heap.size, 0, none⟩ = some (.slice B m d) ∧ w'.cell? ⟨w.heap.size, 0, none⟩ = some (.pointer (some ⟨C, 0, none⟩)))) [1, 2] (by kernel_rfl) ⟨HGB.out.cell 0, HX.out.pblk⟩ (fun hHeld => ?_)
            refine wpTill_pure (i := 0) (oi := ⟨some 60, _, _, _, _, _⟩) (v := ?_) rfl (by kernel_rfl) (by kernel_rfl) (by kernel_rfl) (fun _ _ _ h => h) (Or.inl ⟨by rfl, ?_⟩) ?_
            rotate_left 1
            ·intro wq _
             go_simp
             try with_reducible rfl
            try simp only [Act.put, List.setIfInBounds_toArray, List.set_cons_zero, List.set_cons_succ]
            refine wpTill_take (i := 1) (oi := ⟨some 61, _, _, _, _, _⟩) (v := ?_) rfl (by kernel_rfl) (by kernel_rfl) (by kernel_rfl) (by kernel_rfl) (by kernel_rfl) (fun _ _ _ h => h) (Or.inl ⟨by rfl, ?_⟩) (by assumption) ?_
            rotate_left 1
            ·intro wq hSw
             (try dsimp only at hSw)
             go_simp
             try with_reducible rfl
            try simp only [Act.put, List.setIfInBounds_toArray, List.set_cons_zero, List.set_cons_succ]
            refine wpTill_take (i := 2) (oi := ⟨some 62, _, _, _, _, _⟩) (v := ?_) rfl (by kernel_rfl) (by kernel_rfl) (by kernel_rfl) (by kernel_rfl) (by kernel_rfl) (fun _ _ _ h => h) (Or.inl ⟨by rfl, ?_⟩) (by assumption) ?_
            rotate_left 1
            ·intro wq hSw
             (try dsimp only at hSw)
             go_simp
             try with_reducible rfl
            try simp only [Act.put, List.setIfInBounds_toArray, List.set_cons_zero, List.set_cons_succ]
            refine wpTill_one (i := 3) (o := ⟨some 63, _, _, _, _, _⟩) (by kernel_rfl) rfl (fun K hK => ?_)
            go_simp
            go_at_call 78
            refine (HPT.out _ HX.out.cur.drew1).mono ?_
            rintro e w1 ⟨he, hb⟩
            unfold thrown at he
            subst he
            have HBE := Lib.hid (HX.out.drew.but.trans hb)
            clear hb
            go_wp2_with fail
            rw [HRN.out]
            exact ⟨rfl, rfl, HBE.out⟩
          | ok q =>
            obtain ⟨t, j2⟩ := q
            have HTR0 := Lib.hid (HPOK.out t j2 (HPP.out.trans hres))
            have HTR := Lib.hid HTR0.out.2
            have HPT := Lib.hid (fun (W : World) (hc : CurAt W C A n c L j) => show Calls Tryz.prog 78 #[.pointer (some ⟨C, 0, none⟩)] W (SetPost W C A n c L (.ok (t, j2))) by have := HPT0.out W hc; rwa [hres] at this)
            obtain ⟨tn, x, ho⟩ : ∃ tn x, opP 124 s t = (tn, x) := ⟨_, _, rfl⟩
            have HOP := Lib.hid (fun (W : World) (B1 : Option Addr) (m1 d1 : Nat) (h1 : SetArg W B m d s) (h2 : SetArg W B1 m1 d1 t) => show Calls Tryz.prog 17 #[.slice B m d, .slice B1 m1 d1] W (SetTuple W (tn, x)) by have := sets_union B B1 m d m1 d1 s t W h1 h2; rwa [ho] at this)
            have HTN := Lib.hid (show RightSet tn by have := op_right 124 HX.out.right HTR.out; rwa [ho] at this)
            have hst9 := HGO.out.trans (partsP_step H93.out (HPP.out.trans hres))
            rw [OPR.out, ho] at hst9
            simp only at hst9
            clear hres ho
            by_cases hx : x = 0
            ·subst hx
             rw [if_neg (fun h => h rfl)] at hst9
             have HST := Lib.hid hst9
             clear hst9
             go_upto_region 15 with fail
             refine wp_region_till (S := (fun w' => w'.cell? ⟨wc.heap.size, 0, none⟩ = some (.slice B m d) ∧ w'.cell? ⟨w.heap.size, 0, none⟩ = some (.pointer (some ⟨C, 0, none⟩)))) [1, 2] (by kernel_rfl) ⟨HGB.out.cell 0, HX.out.pblk⟩ (fun hHeld => ?_)
             refine wpTill_pure (i := 0) (oi := ⟨some 60, _, _, _, _, _⟩) (v := ?_) rfl (by kernel_rfl) (by kernel_rfl) (by kernel_rfl) (fun _ _ _ h => h) (Or.inl ⟨by rfl, ?_⟩) ?_
             rotate_left 1
             ·intro wq _
              go_simp
              try with_reducible rfl
             try simp only [Act.put, List.setIfInBounds_toArray, List.set_cons_zero, List.set_cons_succ]
             refine wpTill_take (i := 1) (oi := ⟨some 61, _, _, _, _, _⟩) (v := ?_) rfl (by kernel_rfl) (by kernel_rfl) (by kernel_rfl) (by kernel_rfl) (by kernel_rfl) (fun _ _ _ h => h) (Or.inl ⟨by rfl, ?_⟩) (by assumption) ?_
             rotate_left 1
             ·intro wq hSw
              (try dsimp only at hSw)
              go_simp
              try with_reducible rfl
             try simp only [Act.put, List.setIfInBounds_toArray, List.set_cons_zero, List.set_cons_succ]
             refine wpTill_take (i := 2) (oi := ⟨some 62, _, _, _, _, _⟩) (v := ?_) rfl (by kernel_rfl) (by kernel_rfl) (by kernel_rfl) (by kernel_rfl) (by kernel_rfl) (fun _ _ _ h => h) (Or.inl ⟨by rfl, ?_⟩) (by assumption) ?_
             rotate_left 1
             ·intro wq hSw
              (try dsimp only at hSw)
              go_simp
              try with_reducible rfl
             try simp only [Act.put, List.setIfInBounds_toArray, List.set_cons_zero, List.set_cons_succ]
             refine wpTill_one (i := 3) (o := ⟨some 63, _, _, _, _, _⟩) (by kernel_rfl) rfl (fun K hK => ?_)
             go_simp
             go_at_call 78
             refine (HPT.out _ HX.out.cur.drew1).mono ?_
             rintro e w1 hp
             obtain ⟨B1, m1, d1, rfl, hf1, ha1, hb1⟩ := HX.out.drew.part HTR.out hp
             have HF1 := Lib.hid hf1
             have HA1 := Lib.hid ha1
             have HG1 := Lib.hid (HX.out.drew.gblk hb1 (HGB.out.drewN 1))
             clear hp hf1 ha1 hb1
             try dsimp only
             refine hK.out _ _ ?_ (fun hHeld => ?_)
             ·exact ⟨HG1.out.cell 0, HF1.out.pblk⟩
             clear hK K
             try simp only [Act.put, List.setIfInBounds_toArray, List.set_cons_zero, List.set_cons_succ]
             refine wpTill_late (i := 4) (o := ⟨some 64, _, _, _, _, _⟩) (by kernel_rfl) rfl (by kernel_rfl) (fun K hK => ?_)
             go_simp
             go_at_call 17
             refine (HOP.out w1 _ _ _ (HF1.out.arg HG1.out) HA1.out).mono ?_
             rintro e w2 hp
             obtain ⟨B2, m2, d2, rfl, hf2, hr2, hd2, hb2⟩ := HF1.out.op hp
             have HF2 := Lib.hid hf2
             have HR2 := Lib.hid hr2
             have HG2 := Lib.hid (HG1.out.below hb2 HG1.out.lt)
             clear hp hf2 hr2 hb2
             try dsimp only
             refine hK.out _ _ ?_
             clear hK K
             try simp only [Act.put, List.setIfInBounds_toArray, List.set_cons_zero, List.set_cons_succ]
             refine wpTill_pure (i := 5) (oi := ⟨some 65, _, _, _, _, _⟩) (v := ?_) rfl (by kernel_rfl) (by kernel_rfl) (by kernel_rfl) (fun _ _ _ h => h) (Or.inl ⟨by rfl, ?_⟩) ?_
             rotate_left 1
             ·intro wq _
              go_simp
              try with_reducible rfl
             try simp only [Act.put, List.setIfInBounds_toArray, List.set_cons_zero, List.set_cons_succ]
             refine wpTill_pure (i := 6) (oi := ⟨some 66, _, _, _, _, _⟩) (v := ?_) rfl (by kernel_rfl) (by kernel_rfl) (by kernel_rfl) (fun _ _ _ h => h) (Or.inl ⟨by rfl, ?_⟩) ?_
             rotate_left 1
             ·intro wq _
              go_simp
              try with_reducible rfl
             try simp only [Act.put, List.setIfInBounds_toArray, List.set_cons_zero, List.set_cons_succ]
             refine wpTill_late (i := 7) (o := ⟨some 67, _, _, _, _, _⟩) (by kernel_rfl) rfl (by kernel_rfl) (fun K hK => ?_)
             go_simp
             go_at_call 76
             refine (keep_ok B2 m2 d2 w.heap.size wc.heap.size _ w2 HG2.out).mono ?_
             rintro e w3 ⟨rfl, rfl⟩
             have HF3 := Lib.hid (HF2.out.put HR2.out hd2 HTN.out)
             try dsimp only
             refine hK.out _ _ ?_
             clear hK K
             try simp only [Act.put, List.setIfInBounds_toArray, List.set_cons_zero, List.set_cons_succ]
             refine wpTill_done (by kernel_rfl) ?_ _
             generalize w2.setCell ⟨wc.heap.size, 0, none⟩ (.slice B2 m2 d2) = w9 at HF3 ⊢
             have p9 := HF3.out.pblk
             go_simp
             go_wp2_with fail
             refine (cur_skip _ C A n c L j2 HF3.out.cur).mono ?_
             rintro e w4 ⟨rfl, hc4, hb4⟩
             have HF4 := Lib.hid (HF3.out.keepB hb4 hc4)
             clear hc4 hb4
             go_wp2_with fail
             have hj2 := HTR0.out.1
             have hle := HF3.out.cur.le
             refine ⟨⟨f, j2, tn, HST.out, by omega, HF4.out⟩, ?_⟩
             have e1 : w4.cell? ⟨C, 1, none⟩ = some (.int .i64 ((skipP L j2 : Nat) : Int)) := HF4.out.cur.blk.cell 1
             have e2 : wr.cell? ⟨C, 1, none⟩ = some (.int .i64 ((j : Nat) : Int)) := HM0.out
             rw [e1, e2]
             simp only [Int.toNat_natCast]
             have := skipP_ge L j2
             omega
            ·rw [if_pos hx] at hst9
             have HRN := Lib.hid (HERR.out (x, j2) hst9)
             clear hst9
             go_upto_region 15 with fail
             refine wp_region_till (S := (fun w' => w'.cell? ⟨wc.heap.size, 0, none⟩ = some (.slice B m d) ∧ w'.cell? ⟨w.heap.size, 0, none⟩ = some (.pointer (some ⟨C, 0, none⟩)))) [1, 2] (by kernel_rfl) ⟨HGB.out.cell 0, HX.out.pblk⟩ (fun hHeld => ?_)
             refine wpTill_pure (i := 0) (oi := ⟨some 60, _, _, _, _, _⟩) (v := ?_) rfl (by kernel_rfl) (by kernel_rfl) (by kernel_rfl) (fun _ _ _ h => h) (Or.inl ⟨by rfl, ?_⟩) ?_
             rotate_left 1
             ·intro wq _
              go_simp
              try with_reducible rfl
             try simp only [Act.put, List.setIfInBounds_toArray, List.set_cons_zero, List.set_cons_succ]
             refine wpTill_take (i := 1) (oi := ⟨some 61, _, _, _, _, _⟩) (v := ?_) rfl (by kernel_rfl) (by kernel_rfl) (by kernel_rfl) (by kernel_rfl) (by kernel_rfl) (fun _ _ _ h => h) (Or.inl ⟨by rfl, ?_⟩) (by assumption) ?_
             rotate_left 1
             ·intro wq hSw
              (try dsimp only at hSw)
              go_simp
              try with_reducible rfl
             try simp only [Act.put, List.setIfInBounds_toArray, List.set_cons_zero, List.set_cons_succ]
             refine wpTill_take (i := 2) (oi := ⟨some 62, _, _, _, _, _⟩) (v := ?_) rfl (by kernel_rfl) (by kernel_rfl) (by kernel_rfl) (by kernel_rfl) (by kernel_rfl) (fun _ _ _ h => h) (Or.inl ⟨by rfl, ?_⟩) (by assumption) ?_
             rotate_left 1
             ·intro wq hSw
              (try dsimp only at hSw)
              go_simp
              try with_reducible rfl
             try simp only [Act.put, List.setIfInBounds_toArray, List.set_cons_zero, List.set_cons_succ]
             refine wpTill_one (i := 3) (o := ⟨some 63, _, _, _, _, _⟩) (by kernel_rfl) rfl (fun K hK => ?_)
             go_simp
             go_at_call 78
             refine (HPT.out _ HX.out.cur.drew1).mono ?_
             rintro e w1 hp
             obtain ⟨B1, m1, d1, rfl, hf1, ha1, hb1⟩ := HX.out.drew.part HTR.out hp
             have HF1 := Lib.hid hf1
             have HA1 := Lib.hid ha1
             have HG1 := Lib.hid (HX.out.drew.gblk hb1 (HGB.out.drewN 1))
             clear hp hf1 ha1 hb1
             try dsimp only
             refine hK.out _ _ ?_ (fun hHeld => ?_)
             ·exact ⟨HG1.out.cell 0, HF1.out.pblk⟩
             clear hK K
             try simp only [Act.put, List.setIfInBounds_toArray, List.set_cons_zero, List.set_cons_succ]
             refine wpTill_late (i := 4) (o := ⟨some 64, _, _, _, _, _⟩) (by kernel_rfl) rfl (by kernel_rfl) (fun K hK => ?_)
             go_simp
             go_at_call 17
             refine (HOP.out w1 _ _ _ (HF1.out.arg HG1.out) HA1.out).mono ?_
             rintro e w2 hp
             obtain ⟨B2, m2, d2, rfl, hf2, hr2, hd2, hb2⟩ := HF1.out.op hp
             have HF2 := Lib.hid hf2
             have HR2 := Lib.hid hr2
             have HG2 := Lib.hid (HG1.out.below hb2 HG1.out.lt)
             clear hp hf2 hr2 hb2
             try dsimp only
             refine hK.out _ _ ?_
             clear hK K
             try simp only [Act.put, List.setIfInBounds_toArray, List.set_cons_zero, List.set_cons_succ]
             refine wpTill_pure (i := 5) (oi := ⟨some 65, _, _, _, _, _⟩) (v := ?_) rfl (by kernel_rfl) (by kernel_rfl) (by kernel_rfl) (fun _ _ _ h => h) (Or.inl ⟨by rfl, ?_⟩) ?_
             rotate_left 1
             ·intro wq _
              go_simp
              try with_reducible rfl
             try simp only [Act.put, List.setIfInBounds_toArray, List.set_cons_zero, List.set_cons_succ]
             refine wpTill_pure (i := 6) (oi := ⟨some 66, _, _, _, _, _⟩) (v := ?_) rfl (by kernel_rfl) (by kernel_rfl) (by kernel_rfl) (fun _ _ _ h => h) (Or.inl ⟨by rfl, ?_⟩) ?_
             rotate_left 1
             ·intro wq _
              go_simp
              try with_reducible rfl
             try simp only [Act.put, List.setIfInBounds_toArray, List.set_cons_zero, List.set_cons_succ]
             refine wpTill_late (i := 7) (o := ⟨some 67, _, _, _, _, _⟩) (by kernel_rfl) rfl (by kernel_rfl) (fun K hK => ?_)
             go_simp
             go_at_call 76
             refine (keep_err B2 m2 d2 C w.heap.size wc.heap.size A n c L j2 x w2 hx HF2.out.box HF2.out.cur).mono ?_
             rintro e w3 ⟨he, rfl⟩
             unfold thrown at he
             subst he
             have HBE := Lib.hid HF2.out.but
             go_wp2_with fail
             rw [HRN.out]
             exact ⟨rfl, rfl, HBE.out⟩
         ·have hq58 : (r2 == 58) = false := by simp; exact h58
          have HPT0 := Lib.hid (fun (W : World) (hc : CurAt W C A n c L j) => HIH.out W j hc)
          have HPP := Lib.hid (show partP' (setP' L lv) L (skipP L i0) = setP' L lv j by rw [HJ.out]; exact part_set HRJ.out (by rw [HR2J.out]; exact h58))
          clear h58
          go_wp2_with fail
          refine (HLK.out _ HX6.out.cur).mono ?_
          rintro e w7 ⟨rfl, hc7, hb7⟩
          have HX := Lib.hid (HX6.out.keepB hb7 hc7)
          have HGB := Lib.hid (HX6.out.gblk hb7 HG6.out)
          have p7 := HX.out.pblk
          clear hc7 hb7 p6
          cases hres : setP' L lv j with
          | error e0 =>
            obtain ⟨x, p⟩ := e0
            have HRN := Lib.hid (HERR.out (x, p) (HGO.out.trans (partsP_err H93.out (HPP.out.trans hres))))
            have HPT := Lib.hid (fun (W : World) (hc : CurAt W C A n c L j) => show Calls Tryz.prog 39 #[.pointer (some ⟨C, 0, none⟩), .int .i64 ((dd : Int) + 1)] W (SetPost W C A n c L (.error (x, p))) by have := HPT0.out W hc; rwa [hres] at this)
            clear hres
            go_upto_region 17 with fail
            refine wp_region_till (S := (fun w' => w'.cell? ⟨wc.heap.size, 0, none⟩ = some (.slice B m d) ∧ w'.cell? ⟨w.heap.size, 0, none⟩ = some (.pointer (some ⟨C, 0, none⟩)))) [1, 2] (by kernel_rfl) ⟨HGB.out.cell 0, HX.out.pblk⟩ (fun hHeld => ?_)
            refine wpTill_pure (i := 0) (oi := ⟨some 71, _, _, _, _, _⟩) (v := ?_) rfl (by kernel_rfl) (by kernel_rfl) (by kernel_rfl) (fun _ _ _ h => h) (Or.inl ⟨by rfl, ?_⟩) ?_
            rotate_left 1
            ·intro wq _
             go_simp
             try with_reducible rfl
            try simp only [Act.put, List.setIfInBounds_toArray, List.set_cons_zero, List.set_cons_succ]
            refine wpTill_take (i := 1) (oi := ⟨some 72, _, _, _, _, _⟩) (v := ?_) rfl (by kernel_rfl) (by kernel_rfl) (by kernel_rfl) (by kernel_rfl) (by kernel_rfl) (fun _ _ _ h => h) (Or.inl ⟨by rfl, ?_⟩) (by assumption) ?_
            rotate_left 1
            ·intro wq hSw
             (try dsimp only at hSw)
             go_simp
             try with_reducible rfl
            try simp only [Act.put, List.setIfInBounds_toArray, List.set_cons_zero, List.set_cons_succ]
            refine wpTill_take (i := 2) (oi := ⟨some 73, _, _, _, _, _⟩) (v := ?_) rfl (by kernel_rfl) (by kernel_rfl) (by kernel_rfl) (by kernel_rfl) (by kernel_rfl) (fun _ _ _ h => h) (Or.inl ⟨by rfl, ?_⟩) (by assumption) ?_
            rotate_left 1
            ·intro wq hSw
             (try dsimp only at hSw)
             go_simp
             try with_reducible rfl
            try simp only [Act.put, List.setIfInBounds_toArray, List.set_cons_zero, List.set_cons_succ]
            refine wpTill_pure (i := 3) (oi := ⟨some 74, _, _, _, _, _⟩) (v := ?_) rfl (by kernel_rfl) (by kernel_rfl) (by kernel_rfl) (fun _ _ _ h => h) (Or.inl ⟨by rfl, ?_⟩) ?_
            rotate_left 1
            ·intro wq _
             go_simp
             try with_reducible rfl
            try simp only [Act.put, List.setIfInBounds_toArray, List.set_cons_zero, List.set_cons_succ]
            refine wpTill_pure (i := 4) (oi := ⟨some 75, _, _, _, _, _⟩) (v := ?_) rfl (by kernel_rfl) (by kernel_rfl) (by kernel_rfl) (fun _ _ _ h => h) (Or.inl ⟨by rfl, ?_⟩) ?_
            rotate_left 1
            ·intro wq _
             go_simp
             try with_reducible rfl
            try simp only [Act.put, List.setIfInBounds_toArray, List.set_cons_zero, List.set_cons_succ]
            refine wpTill_one (i := 5) (o := ⟨some 76, _, _, _, _, _⟩) (by kernel_rfl) rfl (fun K hK => ?_)
            go_simp
            go_at_call 39
            refine (HPT.out _ HX.out.cur.drew1).mono ?_
            rintro e w1 ⟨he, hb⟩
            unfold thrown at he
            subst he
            have HBE := Lib.hid (HX.out.drew.but.trans hb)
            clear hb
            go_wp2_with fail
            rw [HRN.out]
            exact ⟨rfl, rfl, HBE.out⟩
          | ok q =>
            obtain ⟨t, j2⟩ := q
            have HTR0 := Lib.hid (HPOK.out t j2 (HPP.out.trans hres))
            have HTR := Lib.hid HTR0.out.2
            have HPT := Lib.hid (fun (W : World) (hc : CurAt W C A n c L j) => show Calls Tryz.prog 39 #[.pointer (some ⟨C, 0, none⟩), .int .i64 ((dd : Int) + 1)] W (SetPost W C A n c L (.ok (t, j2))) by have := HPT0.out W hc; rwa [hres] at this)
            obtain ⟨tn, x, ho⟩ : ∃ tn x, opP 124 s t = (tn, x) := ⟨_, _, rfl⟩
            have HOP := Lib.hid (fun (W : World) (B1 : Option Addr) (m1 d1 : Nat) (h1 : SetArg W B m d s) (h2 : SetArg W B1 m1 d1 t) => show Calls Tryz.prog 17 #[.slice B m d, .slice B1 m1 d1] W (SetTuple W (tn, x)) by have := sets_union B B1 m d m1 d1 s t W h1 h2; rwa [ho] at this)
            have HTN := Lib.hid (show RightSet tn by have := op_right 124 HX.out.right HTR.out; rwa [ho] at this)
            have hst9 := HGO.out.trans (partsP_step H93.out (HPP.out.trans hres))
            rw [OPR.out, ho] at hst9
            simp only at hst9
            clear hres ho
            by_cases hx : x = 0
            ·subst hx
             rw [if_neg (fun h => h rfl)] at hst9
             have HST := Lib.hid hst9
             clear hst9
             go_upto_region 17 with fail
             refine wp_region_till (S := (fun w' => w'.cell? ⟨wc.heap.size, 0, none⟩ = some (.slice B m d) ∧ w'.cell? ⟨w.heap.size, 0, none⟩ = some (.pointer (some ⟨C, 0, none⟩)))) [1, 2] (by kernel_rfl) ⟨HGB.out.cell 0, HX.out.pblk⟩ (fun hHeld => ?_)
             refine wpTill_pure (i := 0) (oi := ⟨some 71, _, _, _, _, _⟩) (v := ?_) rfl (by kernel_rfl) (by kernel_rfl) (by kernel_rfl) (fun _ _ _ h => h) (Or.inl ⟨by rfl, ?_⟩) ?_
             rotate_left 1
             ·intro wq _
              go_simp
              try with_reducible rfl
             try simp only [Act.put, List.setIfInBounds_toArray, List.set_cons_zero, List.set_cons_succ]
             refine wpTill_take (i := 1) (oi := ⟨some 72, _, _, _, _, _⟩) (v := ?_) rfl (by kernel_rfl) (by kernel_rfl) (by kernel_rfl) (by kernel_rfl) (by kernel_rfl) (fun _ _ _ h => h) (Or.inl ⟨by rfl, ?_⟩) (by assumption) ?_
             rotate_left 1
             ·intro wq hSw
              (try dsimp only at hSw)
              go_simp
              try with_reducible rfl
             try simp only [Act.put, List.setIfInBounds_toArray, List.set_cons_zero, List.set_cons_succ]
             refine wpTill_take (i := 2) (oi := ⟨some 73, _, _, _, _, _⟩) (v := ?_) rfl (by kernel_rfl) (by kernel_rfl) (by kernel_rfl) (by kernel_rfl) (by kernel_rfl) (fun _ _ _ h => h) (Or.inl ⟨by rfl, ?_⟩) (by assumption) ?_
             rotate_left 1
             ·intro wq hSw
              (try dsimp only at hSw)
              go_simp
              try with_reducible rfl
             try simp only [Act.put, List.setIfInBounds_toArray, List.set_cons_zero, List.set_cons_succ]
             refine wpTill_pure (i := 3) (oi := ⟨some 74, _, _, _, _, _⟩) (v := ?_) rfl (by kernel_rfl) (by kernel_rfl) (by kernel_rfl) (fun _ _ _ h => h) (Or.inl ⟨by rfl, ?_⟩) ?_
             rotate_left 1
             ·intro wq _
              go_simp
              try with_reducible rfl
             try simp only [Act.put, List.setIfInBounds_toArray, List.set_cons_zero, List.set_cons_succ]
             refine wpTill_pure (i := 4) (oi := ⟨some 75, _, _, _, _, _⟩) (v := ?_) rfl (by kernel_rfl) (by kernel_rfl) (by kernel_rfl) (fun _ _ _ h => h) (Or.inl ⟨by rfl, ?_⟩) ?_
             rotate_left 1
             ·intro wq _
              go_simp
              try with_reducible rfl
             try simp only [Act.put, List.setIfInBounds_toArray, List.set_cons_zero, List.set_cons_succ]
             refine wpTill_one (i := 5) (o := ⟨some 76, _, _, _, _, _⟩) (by kernel_rfl) rfl (fun K hK => ?_)
             go_simp
             go_at_call 39
             refine (HPT.out _ HX.out.cur.drew1).mono ?_
             rintro e w1 hp
             obtain ⟨B1, m1, d1, rfl, hf1, ha1, hb1⟩ := HX.out.drew.part HTR.out hp
             have HF1 := Lib.hid hf1
             have HA1 := Lib.hid ha1
             have HG1 := Lib.hid (HX.out.drew.gblk hb1 (HGB.out.drewN 1))
             clear hp hf1 ha1 hb1
             try dsimp only
             refine hK.out _ _ ?_ (fun hHeld => ?_)
             ·exact ⟨HG1.out.cell 0, HF1.out.pblk⟩
             clear hK K
             try simp only [Act.put, List.setIfInBounds_toArray, List.set_cons_zero, List.set_cons_succ]
             refine wpTill_late (i := 6) (o := ⟨some 77, _, _, _, _, _⟩) (by kernel_rfl) rfl (by kernel_rfl) (fun K hK => ?_)
             go_simp
             go_at_call 17
             refine (HOP.out w1 _ _ _ (HF1.out.arg HG1.out) HA1.out).mono ?_
             rintro e w2 hp
             obtain ⟨B2, m2, d2, rfl, hf2, hr2, hd2, hb2⟩ := HF1.out.op hp
             have HF2 := Lib.hid hf2
             have HR2 := Lib.hid hr2
             have HG2 := Lib.hid (HG1.out.below hb2 HG1.out.lt)
             clear hp hf2 hr2 hb2
             try dsimp only
             refine hK.out _ _ ?_
             clear hK K
             try simp only [Act.put, List.setIfInBounds_toArray, List.set_cons_zero, List.set_cons_succ]
             refine wpTill_pure (i := 7) (oi := ⟨some 78, _, _, _, _, _⟩) (v := ?_) rfl (by kernel_rfl) (by kernel_rfl) (by kernel_rfl) (fun _ _ _ h => h) (Or.inl ⟨by rfl, ?_⟩) ?_
             rotate_left 1
             ·intro wq _
              go_simp
              try with_reducible rfl
             try simp only [Act.put, List.setIfInBounds_toArray, List.set_cons_zero, List.set_cons_succ]
             refine wpTill_pure (i := 8) (oi := ⟨some 79, _, _, _, _, _⟩) (v := ?_) rfl (by kernel_rfl) (by kernel_rfl) (by kernel_rfl) (fun _ _ _ h => h) (Or.inl ⟨by rfl, ?_⟩) ?_
             rotate_left 1
             ·intro wq _
              go_simp
              try with_reducible rfl
             try simp only [Act.put, List.setIfInBounds_toArray, List.set_cons_zero, List.set_cons_succ]
             refine wpTill_late (i := 9) (o := ⟨some 80, _, _, _, _, _⟩) (by kernel_rfl) rfl (by kernel_rfl) (fun K hK => ?_)
             go_simp
             go_at_call 76
             refine (keep_ok B2 m2 d2 w.heap.size wc.heap.size _ w2 HG2.out).mono ?_
             rintro e w3 ⟨rfl, rfl⟩
             have HF3 := Lib.hid (HF2.out.put HR2.out hd2 HTN.out)
             try dsimp only
             refine hK.out _ _ ?_
             clear hK K
             try simp only [Act.put, List.setIfInBounds_toArray, List.set_cons_zero, List.set_cons_succ]
             refine wpTill_done (by kernel_rfl) ?_ _
             generalize w2.setCell ⟨wc.heap.size, 0, none⟩ (.slice B2 m2 d2) = w9 at HF3 ⊢
             have p9 := HF3.out.pblk
             go_simp
             go_wp2_with fail
             refine (cur_skip _ C A n c L j2 HF3.out.cur).mono ?_
             rintro e w4 ⟨rfl, hc4, hb4⟩
             have HF4 := Lib.hid (HF3.out.keepB hb4 hc4)
             clear hc4 hb4
             go_wp2_with fail
             have hj2 := HTR0.out.1
             have hle := HF3.out.cur.le
             refine ⟨⟨f, j2, tn, HST.out, by omega, HF4.out⟩, ?_⟩
             have e1 : w4.cell? ⟨C, 1, none⟩ = some (.int .i64 ((skipP L j2 : Nat) : Int)) := HF4.out.cur.blk.cell 1
             have e2 : wr.cell? ⟨C, 1, none⟩ = some (.int .i64 ((j : Nat) : Int)) := HM0.out
             rw [e1, e2]
             simp only [Int.toNat_natCast]
             have := skipP_ge L j2
             omega
            ·rw [if_pos hx] at hst9
             have HRN := Lib.hid (HERR.out (x, j2) hst9)
             clear hst9
             go_upto_region 17 with fail
             refine wp_region_till (S := (fun w' => w'.cell? ⟨wc.heap.size, 0, none⟩ = some (.slice B m d) ∧ w'.cell? ⟨w.heap.size, 0, none⟩ = some (.pointer (some ⟨C, 0, none⟩)))) [1, 2] (by kernel_rfl) ⟨HGB.out.cell 0, HX.out.pblk⟩ (fun hHeld => ?_)
             refine wpTill_pure (i := 0) (oi := ⟨some 71, _, _, _, _, _⟩) (v := ?_) rfl (by kernel_rfl) (by kernel_rfl) (by kernel_rfl) (fun _ _ _ h => h) (Or.inl ⟨by rfl, ?_⟩) ?_
             rotate_left 1
             ·intro wq _
              go_simp
              try with_reducible rfl
             try simp only [Act.put, List.setIfInBounds_toArray, List.set_cons_zero, List.set_cons_succ]
             refine wpTill_take (i := 1) (oi := ⟨some 72, _, _, _, _, _⟩) (v := ?_) rfl (by kernel_rfl) (by kernel_rfl) (by kernel_rfl) (by kernel_rfl) (by kernel_rfl) (fun _ _ _ h => h) (Or.inl ⟨by rfl, ?_⟩) (by assumption) ?_
             rotate_left 1
             ·intro wq hSw
              (try dsimp only at hSw)
              go_simp
              try with_reducible rfl
             try simp only [Act.put, List.setIfInBounds_toArray, List.set_cons_zero, List.set_cons_succ]
             refine wpTill_take (i := 2) (oi := ⟨some 73, _, _, _, _, _⟩) (v := ?_) rfl (by kernel_rfl) (by kernel_rfl) (by kernel_rfl) (by kernel_rfl) (by kernel_rfl) (fun _ _ _ h => h) (Or.inl ⟨by rfl, ?_⟩) (by assumption) ?_
             rotate_left 1
             ·intro wq hSw
              (try dsimp only at hSw)
              go_simp
              try with_reducible rfl
             try simp only [Act.put, List.setIfInBounds_toArray, List.set_cons_zero, List.set_cons_succ]
             refine wpTill_pure (i := 3) (oi := ⟨some 74, _, _, _, _, _⟩) (v := ?_) rfl (by kernel_rfl) (by kernel_rfl) (by kernel_rfl) (fun _ _ _ h => h) (Or.inl ⟨by rfl, ?_⟩) ?_
             rotate_left 1
             ·intro wq _
              go_simp
              try with_reducible rfl
             try simp only [Act.put, List.setIfInBounds_toArray, List.set_cons_zero, List.set_cons_succ]
             refine wpTill_pure (i := 4) (oi := ⟨some 75, _, _, _, _, _⟩) (v := ?_) rfl (by kernel_rfl) (by kernel_rfl) (by kernel_rfl) (fun _ _ _ h => h) (Or.inl ⟨by rfl, ?_⟩) ?_
             rotate_left 1
             ·intro wq _
              go_simp
              try with_reducible rfl
             try simp only [Act.put, List.setIfInBounds_toArray, List.set_cons_zero, List.set_cons_succ]
             refine wpTill_one (i := 5) (o := ⟨some 76, _, _, _, _, _⟩) (by kernel_rfl) rfl (fun K hK => ?_)
             go_simp
             go_at_call 39
             refine (HPT.out _ HX.out.cur.drew1).mono ?_
             rintro e w1 hp
             obtain ⟨B1, m1, d1, rfl, hf1, ha1, hb1⟩ := HX.out.drew.part HTR.out hp
             have HF1 := Lib.hid hf1
             have HA1 := Lib.hid ha1
             have HG1 := Lib.hid (HX.out.drew.gblk hb1 (HGB.out.drewN 1))
             clear hp hf1 ha1 hb1
             try dsimp only
             refine hK.out _ _ ?_ (fun hHeld => ?_)
             ·exact ⟨HG1.out.cell 0, HF1.out.pblk⟩
             clear hK K
             try simp only [Act.put, List.setIfInBounds_toArray, List.set_cons_zero, List.set_cons_succ]
             refine wpTill_late (i := 6) (o := ⟨some 77, _, _, _, _, _⟩) (by kernel_rfl) rfl (by kernel_rfl) (fun K hK => ?_)
             go_simp
             go_at_call 17
             refine (HOP.out w1 _ _ _ (HF1.out.arg HG1.out) HA1.out).mono ?_
             rintro e w2 hp
             obtain ⟨B2, m2, d2, rfl, hf2, hr2, hd2, hb2⟩ := HF1.out.op hp
             have HF2 := Lib.hid hf2
             have HR2 := Lib.hid hr2
             have HG2 := Lib.hid (HG1.out.below hb2 HG1.out.lt)
             clear hp hf2 hr2 hb2
             try dsimp only
             refine hK.out _ _ ?_
             clear hK K
             try simp only [Act.put, List.setIfInBounds_toArray, List.set_cons_zero, List.set_cons_succ]
             refine wpTill_pure (i := 7) (oi := ⟨some 78, _, _, _, _, _⟩) (v := ?_) rfl (by kernel_rfl) (by kernel_rfl) (by kernel_rfl) (fun _ _ _ h => h) (Or.inl ⟨by rfl, ?_⟩) ?_
             rotate_left 1
             ·intro wq _
              go_simp
              try with_reducible rfl
             try simp only [Act.put, List.setIfInBounds_toArray, List.set_cons_zero, List.set_cons_succ]
             refine wpTill_pure (i := 8) (oi := ⟨some 79, _, _, _, _, _⟩) (v := ?_) rfl (by kernel_rfl) (by kernel_rfl) (by kernel_rfl) (fun _ _ _ h => h) (Or.inl ⟨by rfl, ?_⟩) ?_
             rotate_left 1
             ·intro wq _
              go_simp
              try with_reducible rfl
             try simp only [Act.put, List.setIfInBounds_toArray, List.set_cons_zero, List.set_cons_succ]
             refine wpTill_late (i := 9) (o := ⟨some 80, _, _, _, _, _⟩) (by kernel_rfl) rfl (by kernel_rfl) (fun K hK => ?_)
             go_simp
             go_at_call 76
             refine (keep_err B2 m2 d2 C w.heap.size wc.heap.size A n c L j2 x w2 hx HF2.out.box HF2.out.cur).mono ?_
             rintro e w3 ⟨he, rfl⟩
             unfold thrown at he
             subst he
             have HBE := Lib.hid HF2.out.but
             go_wp2_with fail
             rw [HRN.out]
             exact ⟨rfl, rfl, HBE.out⟩
        ·have hq91 : (r == 91) = false := by simp; exact h91
         by_cases h38 : r = 38
         ·have OPR := Lib.hid (show opOf (pk L (skipP L i0)) = 38 by rw [HJ.out, HRJ.out, h38]; rfl)
          have HPT0 := Lib.hid (fun (W : World) (hc : CurAt W C A n c L (skipP L (j + 1))) => HIH.out W (skipP L (j + 1)) hc)
          have HPP := Lib.hid (show partP' (setP' L lv) L (skipP L i0) = setP' L lv (skipP L (j + 1)) by rw [HJ.out]; exact part_op (.inl (by rw [HRJ.out]; exact h38)))
          have hjlt := hjr (by omega)
          have hw3 : IntKind.i64.wrap ((j : Int) + 1) = (j : Int) + 1 := wrap_small _ (by omega) (by omega)
          subst h38
          obtain ⟨d1, d2, d3, d4⟩ := HX6.out.cur.step hjlt
          have HX7 := Lib.hid (HX6.out.keepB d4 d3)
          have HG7 := Lib.hid (HX6.out.gblk d4 HG6.out)
          have p7 := HX7.out.pblk
          clear d3 d4
          go_wp2_with fail
          refine (cur_skip _ C A n c L (j + 1) HX7.out.cur).mono ?_
          rintro e w8 ⟨rfl, hc8, hb8⟩
          have HX := Lib.hid (HX7.out.keepB hb8 hc8)
          have HGB := Lib.hid (HX7.out.gblk hb8 HG7.out)
          have p8 := HX.out.pblk
          clear hc8 hb8 p7 p6 d1 d2
          cases hres : setP' L lv (skipP L (j + 1)) with
          | error e0 =>
            obtain ⟨x, p⟩ := e0
            have HRN := Lib.hid (HERR.out (x, p) (HGO.out.trans (partsP_err H93.out (HPP.out.trans hres))))
            have HPT := Lib.hid (fun (W : World) (hc : CurAt W C A n c L (skipP L (j + 1))) => show Calls Tryz.prog 39 #[.pointer (some ⟨C, 0, none⟩), .int .i64 ((dd : Int) + 1)] W (SetPost W C A n c L (.error (x, p))) by have := HPT0.out W hc; rwa [hres] at this)
            clear hres
            go_upto_region 21 with fail
            refine wp_region_till (S := (fun w' => w'.cell? ⟨wc.heap.size, 0, none⟩ = some (.slice B m d) ∧ w'.cell? ⟨w.heap.size, 0, none⟩ = some (.pointer (some ⟨C, 0, none⟩)))) [1, 2] (by kernel_rfl) ⟨HGB.out.cell 0, HX.out.pblk⟩ (fun hHeld => ?_)
            refine wpTill_pure (i := 0) (oi := ⟨some 93, _, _, _, _, _⟩) (v := ?_) rfl (by kernel_rfl) (by kernel_rfl) (by kernel_rfl) (fun _ _ _ h => h) (Or.inl ⟨by rfl, ?_⟩) ?_
            rotate_left 1
            ·intro wq _
             go_simp
             try with_reducible rfl
            try simp only [Act.put, List.setIfInBounds_toArray, List.set_cons_zero, List.set_cons_succ]
            refine wpTill_take (i := 1) (oi := ⟨some 94, _, _, _, _, _⟩) (v := ?_) rfl (by kernel_rfl) (by kernel_rfl) (by kernel_rfl) (by kernel_rfl) (by kernel_rfl) (fun _ _ _ h => h) (Or.inl ⟨by rfl, ?_⟩) (by assumption) ?_
            rotate_left 1
            ·intro wq hSw
             (try dsimp only at hSw)
             go_simp
             try with_reducible rfl
            try simp only [Act.put, List.setIfInBounds_toArray, List.set_cons_zero, List.set_cons_succ]
            refine wpTill_take (i := 2) (oi := ⟨some 95, _, _, _, _, _⟩) (v := ?_) rfl (by kernel_rfl) (by kernel_rfl) (by kernel_rfl) (by kernel_rfl) (by kernel_rfl) (fun _ _ _ h => h) (Or.inl ⟨by rfl, ?_⟩) (by assumption) ?_
            rotate_left 1
            ·intro wq hSw
             (try dsimp only at hSw)
             go_simp
             try with_reducible rfl
            try simp only [Act.put, List.setIfInBounds_toArray, List.set_cons_zero, List.set_cons_succ]
            refine wpTill_pure (i := 3) (oi := ⟨some 96, _, _, _, _, _⟩) (v := ?_) rfl (by kernel_rfl) (by kernel_rfl) (by kernel_rfl) (fun _ _ _ h => h) (Or.inl ⟨by rfl, ?_⟩) ?_
            rotate_left 1
            ·intro wq _
             go_simp
             try with_reducible rfl
            try simp only [Act.put, List.setIfInBounds_toArray, List.set_cons_zero, List.set_cons_succ]
            refine wpTill_pure (i := 4) (oi := ⟨some 97, _, _, _, _, _⟩) (v := ?_) rfl (by kernel_rfl) (by kernel_rfl) (by kernel_rfl) (fun _ _ _ h => h) (Or.inl ⟨by rfl, ?_⟩) ?_
            rotate_left 1
            ·intro wq _
             go_simp
             try with_reducible rfl
            try simp only [Act.put, List.setIfInBounds_toArray, List.set_cons_zero, List.set_cons_succ]
            refine wpTill_one (i := 5) (o := ⟨some 98, _, _, _, _, _⟩) (by kernel_rfl) rfl (fun K hK => ?_)
            go_simp
            go_at_call 39
            refine (HPT.out _ HX.out.cur.drew1).mono ?_
            rintro e w1 ⟨he, hb⟩
            unfold thrown at he
            subst he
            have HBE := Lib.hid (HX.out.drew.but.trans hb)
            clear hb
            go_wp2_with fail
            rw [HRN.out]
            exact ⟨rfl, rfl, HBE.out⟩
          | ok q =>
            obtain ⟨t, j2⟩ := q
            have HTR0 := Lib.hid (HPOK.out t j2 (HPP.out.trans hres))
            have HTR := Lib.hid HTR0.out.2
            have HPT := Lib.hid (fun (W : World) (hc : CurAt W C A n c L (skipP L (j + 1))) => show Calls Tryz.prog 39 #[.pointer (some ⟨C, 0, none⟩), .int .i64 ((dd : Int) + 1)] W (SetPost W C A n c L (.ok (t, j2))) by have := HPT0.out W hc; rwa [hres] at this)
            obtain ⟨tn, x, ho⟩ : ∃ tn x, opP 38 s t = (tn, x) := ⟨_, _, rfl⟩
            have HOP := Lib.hid (fun (W : World) (B1 : Option Addr) (m1 d1 : Nat) (h1 : SetArg W B m d s) (h2 : SetArg W B1 m1 d1 t) => show Calls Tryz.prog 18 #[.slice B m d, .slice B1 m1 d1] W (SetTuple W (tn, x)) by have := sets_meet_top B B1 m d m1 d1 s t W h1 h2; rwa [ho] at this)
            have HTN := Lib.hid (show RightSet tn by have := op_right 38 HX.out.right HTR.out; rwa [ho] at this)
            have hst9 := HGO.out.trans (partsP_step H93.out (HPP.out.trans hres))
            rw [OPR.out, ho] at hst9
            simp only at hst9
            clear hres ho
            by_cases hx : x = 0
            ·subst hx
             rw [if_neg (fun h => h rfl)] at hst9
             have HST := Lib.hid hst9
             clear hst9
             go_upto_region 21 with fail
             refine wp_region_till (S := (fun w' => w'.cell? ⟨wc.heap.size, 0, none⟩ = some (.slice B m d) ∧ w'.cell? ⟨w.heap.size, 0, none⟩ = some (.pointer (some ⟨C, 0, none⟩)))) [1, 2] (by kernel_rfl) ⟨HGB.out.cell 0, HX.out.pblk⟩ (fun hHeld => ?_)
             refine wpTill_pure (i := 0) (oi := ⟨some 93, _, _, _, _, _⟩) (v := ?_) rfl (by kernel_rfl) (by kernel_rfl) (by kernel_rfl) (fun _ _ _ h => h) (Or.inl ⟨by rfl, ?_⟩) ?_
             rotate_left 1
             ·intro wq _
              go_simp
              try with_reducible rfl
             try simp only [Act.put, List.setIfInBounds_toArray, List.set_cons_zero, List.set_cons_succ]
             refine wpTill_take (i := 1) (oi := ⟨some 94, _, _, _, _, _⟩) (v := ?_) rfl (by kernel_rfl) (by kernel_rfl) (by kernel_rfl) (by kernel_rfl) (by kernel_rfl) (fun _ _ _ h => h) (Or.inl ⟨by rfl, ?_⟩) (by assumption) ?_
             rotate_left 1
             ·intro wq hSw
              (try dsimp only at hSw)
              go_simp
              try with_reducible rfl
             try simp only [Act.put, List.setIfInBounds_toArray, List.set_cons_zero, List.set_cons_succ]
             refine wpTill_take (i := 2) (oi := ⟨some 95, _, _, _, _, _⟩) (v := ?_) rfl (by kernel_rfl) (by kernel_rfl) (by kernel_rfl) (by kernel_rfl) (by kernel_rfl) (fun _ _ _ h => h) (Or.inl ⟨by rfl, ?_⟩) (by assumption) ?_
             rotate_left 1
             ·intro wq hSw
              (try dsimp only at hSw)
              go_simp
              try with_reducible rfl
             try simp only [Act.put, List.setIfInBounds_toArray, List.set_cons_zero, List.set_cons_succ]
             refine wpTill_pure (i := 3) (oi := ⟨some 96, _, _, _, _, _⟩) (v := ?_) rfl (by kernel_rfl) (by kernel_rfl) (by kernel_rfl) (fun _ _ _ h => h) (Or.inl ⟨by rfl, ?_⟩) ?_
             rotate_left 1
             ·intro wq _
              go_simp
              try with_reducible rfl
             try simp only [Act.put, List.setIfInBounds_toArray, List.set_cons_zero, List.set_cons_succ]
             refine wpTill_pure (i := 4) (oi := ⟨some 97, _, _, _, _, _⟩) (v := ?_) rfl (by kernel_rfl) (by kernel_rfl) (by kernel_rfl) (fun _ _ _ h => h) (Or.inl ⟨by rfl, ?_⟩) ?_
             rotate_left 1
             ·intro wq _
              go_simp
              try with_reducible rfl
             try simp only [Act.put, List.setIfInBounds_toArray, List.set_cons_zero, List.set_cons_succ]
             refine wpTill_one (i := 5) (o := ⟨some 98, _, _, _, _, _⟩) (by kernel_rfl) rfl (fun K hK => ?_)
             go_simp
             go_at_call 39
             refine (HPT.out _ HX.out.cur.drew1).mono ?_
             rintro e w1 hp
             obtain ⟨B1, m1, d1, rfl, hf1, ha1, hb1⟩ := HX.out.drew.part HTR.out hp
             have HF1 := Lib.hid hf1
             have HA1 := Lib.hid ha1
             have HG1 := Lib.hid (HX.out.drew.gblk hb1 (HGB.out.drewN 1))
             clear hp hf1 ha1 hb1
             try dsimp only
             refine hK.out _ _ ?_ (fun hHeld => ?_)
             ·exact ⟨HG1.out.cell 0, HF1.out.pblk⟩
             clear hK K
             try simp only [Act.put, List.setIfInBounds_toArray, List.set_cons_zero, List.set_cons_succ]
             refine wpTill_late (i := 6) (o := ⟨some 99, _, _, _, _, _⟩) (by kernel_rfl) rfl (by kernel_rfl) (fun K hK => ?_)
             go_simp
             go_at_call 18
             refine (HOP.out w1 _ _ _ (HF1.out.arg HG1.out) HA1.out).mono ?_
             rintro e w2 hp
             obtain ⟨B2, m2, d2, rfl, hf2, hr2, hd2, hb2⟩ := HF1.out.op hp
             have HF2 := Lib.hid hf2
             have HR2 := Lib.hid hr2
             have HG2 := Lib.hid (HG1.out.below hb2 HG1.out.lt)
             clear hp hf2 hr2 hb2
             try dsimp only
             refine hK.out _ _ ?_
             clear hK K
             try simp only [Act.put, List.setIfInBounds_toArray, List.set_cons_zero, List.set_cons_succ]
             refine wpTill_pure (i := 7) (oi := ⟨some 100, _, _, _, _, _⟩) (v := ?_) rfl (by kernel_rfl) (by kernel_rfl) (by kernel_rfl) (fun _ _ _ h => h) (Or.inl ⟨by rfl, ?_⟩) ?_
             rotate_left 1
             ·intro wq _
              go_simp
              try with_reducible rfl
             try simp only [Act.put, List.setIfInBounds_toArray, List.set_cons_zero, List.set_cons_succ]
             refine wpTill_pure (i := 8) (oi := ⟨some 101, _, _, _, _, _⟩) (v := ?_) rfl (by kernel_rfl) (by kernel_rfl) (by kernel_rfl) (fun _ _ _ h => h) (Or.inl ⟨by rfl, ?_⟩) ?_
             rotate_left 1
             ·intro wq _
              go_simp
              try with_reducible rfl
             try simp only [Act.put, List.setIfInBounds_toArray, List.set_cons_zero, List.set_cons_succ]
             refine wpTill_late (i := 9) (o := ⟨some 102, _, _, _, _, _⟩) (by kernel_rfl) rfl (by kernel_rfl) (fun K hK => ?_)
             go_simp
             go_at_call 76
             refine (keep_ok B2 m2 d2 w.heap.size wc.heap.size _ w2 HG2.out).mono ?_
             rintro e w3 ⟨rfl, rfl⟩
             have HF3 := Lib.hid (HF2.out.put HR2.out hd2 HTN.out)
             try dsimp only
             refine hK.out _ _ ?_
             clear hK K
             try simp only [Act.put, List.setIfInBounds_toArray, List.set_cons_zero, List.set_cons_succ]
             refine wpTill_done (by kernel_rfl) ?_ _
             generalize w2.setCell ⟨wc.heap.size, 0, none⟩ (.slice B2 m2 d2) = w9 at HF3 ⊢
             have p9 := HF3.out.pblk
             go_simp
             go_wp2_with fail
             refine (cur_skip _ C A n c L j2 HF3.out.cur).mono ?_
             rintro e w4 ⟨rfl, hc4, hb4⟩
             have HF4 := Lib.hid (HF3.out.keepB hb4 hc4)
             clear hc4 hb4
             go_wp2_with fail
             have hj2 := HTR0.out.1
             have hle := HF3.out.cur.le
             refine ⟨⟨f, j2, tn, HST.out, by omega, HF4.out⟩, ?_⟩
             have e1 : w4.cell? ⟨C, 1, none⟩ = some (.int .i64 ((skipP L j2 : Nat) : Int)) := HF4.out.cur.blk.cell 1
             have e2 : wr.cell? ⟨C, 1, none⟩ = some (.int .i64 ((j : Nat) : Int)) := HM0.out
             rw [e1, e2]
             simp only [Int.toNat_natCast]
             have := skipP_ge L j2
             omega
            ·rw [if_pos hx] at hst9
             have HRN := Lib.hid (HERR.out (x, j2) hst9)
             clear hst9
             go_upto_region 21 with fail
             refine wp_region_till (S := (fun w' => w'.cell? ⟨wc.heap.size, 0, none⟩ = some (.slice B m d) ∧ w'.cell? ⟨w.heap.size, 0, none⟩ = some (.pointer (some ⟨C, 0, none⟩)))) [1, 2] (by kernel_rfl) ⟨HGB.out.cell 0, HX.out.pblk⟩ (fun hHeld => ?_)
             refine wpTill_pure (i := 0) (oi := ⟨some 93, _, _, _, _, _⟩) (v := ?_) rfl (by kernel_rfl) (by kernel_rfl) (by kernel_rfl) (fun _ _ _ h => h) (Or.inl ⟨by rfl, ?_⟩) ?_
             rotate_left 1
             ·intro wq _
              go_simp
              try with_reducible rfl
             try simp only [Act.put, List.setIfInBounds_toArray, List.set_cons_zero, List.set_cons_succ]
             refine wpTill_take (i := 1) (oi := ⟨some 94, _, _, _, _, _⟩) (v := ?_) rfl (by kernel_rfl) (by kernel_rfl) (by kernel_rfl) (by kernel_rfl) (by kernel_rfl) (fun _ _ _ h => h) (Or.inl ⟨by rfl, ?_⟩) (by assumption) ?_
             rotate_left 1
             ·intro wq hSw
              (try dsimp only at hSw)
              go_simp
              try with_reducible rfl
             try simp only [Act.put, List.setIfInBounds_toArray, List.set_cons_zero, List.set_cons_succ]
             refine wpTill_take (i := 2) (oi := ⟨some 95, _, _, _, _, _⟩) (v := ?_) rfl (by kernel_rfl) (by kernel_rfl) (by kernel_rfl) (by kernel_rfl) (by kernel_rfl) (fun _ _ _ h => h) (Or.inl ⟨by rfl, ?_⟩) (by assumption) ?_
             rotate_left 1
             ·intro wq hSw
              (try dsimp only at hSw)
              go_simp
              try with_reducible rfl
             try simp only [Act.put, List.setIfInBounds_toArray, List.set_cons_zero, List.set_cons_succ]
             refine wpTill_pure (i := 3) (oi := ⟨some 96, _, _, _, _, _⟩) (v := ?_) rfl (by kernel_rfl) (by kernel_rfl) (by kernel_rfl) (fun _ _ _ h => h) (Or.inl ⟨by rfl, ?_⟩) ?_
             rotate_left 1
             ·intro wq _
              go_simp
              try with_reducible rfl
             try simp only [Act.put, List.setIfInBounds_toArray, List.set_cons_zero, List.set_cons_succ]
             refine wpTill_pure (i := 4) (oi := ⟨some 97, _, _, _, _, _⟩) (v := ?_) rfl (by kernel_rfl) (by kernel_rfl) (by kernel_rfl) (fun _ _ _ h => h) (Or.inl ⟨by rfl, ?_⟩) ?_
             rotate_left 1
             ·intro wq _
              go_simp
              try with_reducible rfl
             try simp only [Act.put, List.setIfInBounds_toArray, List.set_cons_zero, List.set_cons_succ]
             refine wpTill_one (i := 5) (o := ⟨some 98, _, _, _, _, _⟩) (by kernel_rfl) rfl (fun K hK => ?_)
             go_simp
             go_at_call 39
             refine (HPT.out _ HX.out.cur.drew1).mono ?_
             rintro e w1 hp
             obtain ⟨B1, m1, d1, rfl, hf1, ha1, hb1⟩ := HX.out.drew.part HTR.out hp
             have HF1 := Lib.hid hf1
             have HA1 := Lib.hid ha1
             have HG1 := Lib.hid (HX.out.drew.gblk hb1 (HGB.out.drewN 1))
             clear hp hf1 ha1 hb1
             try dsimp only
             refine hK.out _ _ ?_ (fun hHeld => ?_)
             ·exact ⟨HG1.out.cell 0, HF1.out.pblk⟩
             clear hK K
             try simp only [Act.put, List.setIfInBounds_toArray, List.set_cons_zero, List.set_cons_succ]
             refine wpTill_late (i := 6) (o := ⟨some 99, _, _, _, _, _⟩) (by kernel_rfl) rfl (by kernel_rfl) (fun K hK => ?_)
             go_simp
             go_at_call 18
             refine (HOP.out w1 _ _ _ (HF1.out.arg HG1.out) HA1.out).mono ?_
             rintro e w2 hp
             obtain ⟨B2, m2, d2, rfl, hf2, hr2, hd2, hb2⟩ := HF1.out.op hp
             have HF2 := Lib.hid hf2
             have HR2 := Lib.hid hr2
             have HG2 := Lib.hid (HG1.out.below hb2 HG1.out.lt)
             clear hp hf2 hr2 hb2
             try dsimp only
             refine hK.out _ _ ?_
             clear hK K
             try simp only [Act.put, List.setIfInBounds_toArray, List.set_cons_zero, List.set_cons_succ]
             refine wpTill_pure (i := 7) (oi := ⟨some 100, _, _, _, _, _⟩) (v := ?_) rfl (by kernel_rfl) (by kernel_rfl) (by kernel_rfl) (fun _ _ _ h => h) (Or.inl ⟨by rfl, ?_⟩) ?_
             rotate_left 1
             ·intro wq _
              go_simp
              try with_reducible rfl
             try simp only [Act.put, List.setIfInBounds_toArray, List.set_cons_zero, List.set_cons_succ]
             refine wpTill_pure (i := 8) (oi := ⟨some 101, _, _, _, _, _⟩) (v := ?_) rfl (by kernel_rfl) (by kernel_rfl) (by kernel_rfl) (fun _ _ _ h => h) (Or.inl ⟨by rfl, ?_⟩) ?_
             rotate_left 1
             ·intro wq _
              go_simp
              try with_reducible rfl
             try simp only [Act.put, List.setIfInBounds_toArray, List.set_cons_zero, List.set_cons_succ]
             refine wpTill_late (i := 9) (o := ⟨some 102, _, _, _, _, _⟩) (by kernel_rfl) rfl (by kernel_rfl) (fun K hK => ?_)
             go_simp
             go_at_call 76
             refine (keep_err B2 m2 d2 C w.heap.size wc.heap.size A n c L j2 x w2 hx HF2.out.box HF2.out.cur).mono ?_
             rintro e w3 ⟨he, rfl⟩
             unfold thrown at he
             subst he
             have HBE := Lib.hid HF2.out.but
             go_wp2_with fail
             rw [HRN.out]
             exact ⟨rfl, rfl, HBE.out⟩
         ·have hq38 : (r == 38) = false := by simp; exact h38
          by_cases h45 : r = 45
          ·have OPR := Lib.hid (show opOf (pk L (skipP L i0)) = 45 by rw [HJ.out, HRJ.out, h45]; rfl)
           have HPT0 := Lib.hid (fun (W : World) (hc : CurAt W C A n c L (skipP L (j + 1))) => HIH.out W (skipP L (j + 1)) hc)
           have HPP := Lib.hid (show partP' (setP' L lv) L (skipP L i0) = setP' L lv (skipP L (j + 1)) by rw [HJ.out]; exact part_op (.inr (by rw [HRJ.out]; exact h45)))
           have hjlt := hjr (by omega)
           have hw3 : IntKind.i64.wrap ((j : Int) + 1) = (j : Int) + 1 := wrap_small _ (by omega) (by omega)
           subst h45
           obtain ⟨d1, d2, d3, d4⟩ := HX6.out.cur.step hjlt
           have HX7 := Lib.hid (HX6.out.keepB d4 d3)
           have HG7 := Lib.hid (HX6.out.gblk d4 HG6.out)
           have p7 := HX7.out.pblk
           clear d3 d4
           go_wp2_with fail
           refine (cur_skip _ C A n c L (j + 1) HX7.out.cur).mono ?_
           rintro e w8 ⟨rfl, hc8, hb8⟩
           have HX := Lib.hid (HX7.out.keepB hb8 hc8)
           have HGB := Lib.hid (HX7.out.gblk hb8 HG7.out)
           have p8 := HX.out.pblk
           clear hc8 hb8 p7 p6 d1 d2
           cases hres : setP' L lv (skipP L (j + 1)) with
           | error e0 =>
             obtain ⟨x, p⟩ := e0
             have HRN := Lib.hid (HERR.out (x, p) (HGO.out.trans (partsP_err H93.out (HPP.out.trans hres))))
             have HPT := Lib.hid (fun (W : World) (hc : CurAt W C A n c L (skipP L (j + 1))) => show Calls Tryz.prog 39 #[.pointer (some ⟨C, 0, none⟩), .int .i64 ((dd : Int) + 1)] W (SetPost W C A n c L (.error (x, p))) by have := HPT0.out W hc; rwa [hres] at this)
             clear hres
             go_upto_region 25 with fail
             refine wp_region_till (S := (fun w' => w'.cell? ⟨wc.heap.size, 0, none⟩ = some (.slice B m d) ∧ w'.cell? ⟨w.heap.size, 0, none⟩ = some (.pointer (some ⟨C, 0, none⟩)))) [1, 2] (by kernel_rfl) ⟨HGB.out.cell 0, HX.out.pblk⟩ (fun hHeld => ?_)
             refine wpTill_pure (i := 0) (oi := ⟨some 115, _, _, _, _, _⟩) (v := ?_) rfl (by kernel_rfl) (by kernel_rfl) (by kernel_rfl) (fun _ _ _ h => h) (Or.inl ⟨by rfl, ?_⟩) ?_
             rotate_left 1
             ·intro wq _
              go_simp
              try with_reducible rfl
             try simp only [Act.put, List.setIfInBounds_toArray, List.set_cons_zero, List.set_cons_succ]
             refine wpTill_take (i := 1) (oi := ⟨some 116, _, _, _, _, _⟩) (v := ?_) rfl (by kernel_rfl) (by kernel_rfl) (by kernel_rfl) (by kernel_rfl) (by kernel_rfl) (fun _ _ _ h => h) (Or.inl ⟨by rfl, ?_⟩) (by assumption) ?_
             rotate_left 1
             ·intro wq hSw
              (try dsimp only at hSw)
              go_simp
              try with_reducible rfl
             try simp only [Act.put, List.setIfInBounds_toArray, List.set_cons_zero, List.set_cons_succ]
             refine wpTill_take (i := 2) (oi := ⟨some 117, _, _, _, _, _⟩) (v := ?_) rfl (by kernel_rfl) (by kernel_rfl) (by kernel_rfl) (by kernel_rfl) (by kernel_rfl) (fun _ _ _ h => h) (Or.inl ⟨by rfl, ?_⟩) (by assumption) ?_
             rotate_left 1
             ·intro wq hSw
              (try dsimp only at hSw)
              go_simp
              try with_reducible rfl
             try simp only [Act.put, List.setIfInBounds_toArray, List.set_cons_zero, List.set_cons_succ]
             refine wpTill_pure (i := 3) (oi := ⟨some 118, _, _, _, _, _⟩) (v := ?_) rfl (by kernel_rfl) (by kernel_rfl) (by kernel_rfl) (fun _ _ _ h => h) (Or.inl ⟨by rfl, ?_⟩) ?_
             rotate_left 1
             ·intro wq _
              go_simp
              try with_reducible rfl
             try simp only [Act.put, List.setIfInBounds_toArray, List.set_cons_zero, List.set_cons_succ]
             refine wpTill_pure (i := 4) (oi := ⟨some 119, _, _, _, _, _⟩) (v := ?_) rfl (by kernel_rfl) (by kernel_rfl) (by kernel_rfl) (fun _ _ _ h => h) (Or.inl ⟨by rfl, ?_⟩) ?_
             rotate_left 1
             ·intro wq _
              go_simp
              try with_reducible rfl
             try simp only [Act.put, List.setIfInBounds_toArray, List.set_cons_zero, List.set_cons_succ]
             refine wpTill_one (i := 5) (o := ⟨some 120, _, _, _, _, _⟩) (by kernel_rfl) rfl (fun K hK => ?_)
             go_simp
             go_at_call 39
             refine (HPT.out _ HX.out.cur.drew1).mono ?_
             rintro e w1 ⟨he, hb⟩
             unfold thrown at he
             subst he
             have HBE := Lib.hid (HX.out.drew.but.trans hb)
             clear hb
             go_wp2_with fail
             rw [HRN.out]
             exact ⟨rfl, rfl, HBE.out⟩
           | ok q =>
             obtain ⟨t, j2⟩ := q
             have HTR0 := Lib.hid (HPOK.out t j2 (HPP.out.trans hres))
             have HTR := Lib.hid HTR0.out.2
             have HPT := Lib.hid (fun (W : World) (hc : CurAt W C A n c L (skipP L (j + 1))) => show Calls Tryz.prog 39 #[.pointer (some ⟨C, 0, none⟩), .int .i64 ((dd : Int) + 1)] W (SetPost W C A n c L (.ok (t, j2))) by have := HPT0.out W hc; rwa [hres] at this)
             obtain ⟨tn, x, ho⟩ : ∃ tn x, opP 45 s t = (tn, x) := ⟨_, _, rfl⟩
             have HOP := Lib.hid (fun (W : World) (B1 : Option Addr) (m1 d1 : Nat) (h1 : SetArg W B m d s) (h2 : SetArg W B1 m1 d1 t) => show Calls Tryz.prog 19 #[.slice B m d, .slice B1 m1 d1] W (SetTuple W (tn, x)) by have := sets_minus B B1 m d m1 d1 s t W h1 h2; rwa [ho] at this)
             have HTN := Lib.hid (show RightSet tn by have := op_right 45 HX.out.right HTR.out; rwa [ho] at this)
             have hst9 := HGO.out.trans (partsP_step H93.out (HPP.out.trans hres))
             rw [OPR.out, ho] at hst9
             simp only at hst9
             clear hres ho
             by_cases hx : x = 0
             ·subst hx
              rw [if_neg (fun h => h rfl)] at hst9
              have HST := Lib.hid hst9
              clear hst9
              go_upto_region 25 with fail
              refine wp_region_till (S := (fun w' => w'.cell? ⟨wc.heap.size, 0, none⟩ = some (.slice B m d) ∧ w'.cell? ⟨w.heap.size, 0, none⟩ = some (.pointer (some ⟨C, 0, none⟩)))) [1, 2] (by kernel_rfl) ⟨HGB.out.cell 0, HX.out.pblk⟩ (fun hHeld => ?_)
              refine wpTill_pure (i := 0) (oi := ⟨some 115, _, _, _, _, _⟩) (v := ?_) rfl (by kernel_rfl) (by kernel_rfl) (by kernel_rfl) (fun _ _ _ h => h) (Or.inl ⟨by rfl, ?_⟩) ?_
              rotate_left 1
              ·intro wq _
               go_simp
               try with_reducible rfl
              try simp only [Act.put, List.setIfInBounds_toArray, List.set_cons_zero, List.set_cons_succ]
              refine wpTill_take (i := 1) (oi := ⟨some 116, _, _, _, _, _⟩) (v := ?_) rfl (by kernel_rfl) (by kernel_rfl) (by kernel_rfl) (by kernel_rfl) (by kernel_rfl) (fun _ _ _ h => h) (Or.inl ⟨by rfl, ?_⟩) (by assumption) ?_
              rotate_left 1
              ·intro wq hSw
               (try dsimp only at hSw)
               go_simp
               try with_reducible rfl
              try simp only [Act.put, List.setIfInBounds_toArray, List.set_cons_zero, List.set_cons_succ]
              refine wpTill_take (i := 2) (oi := ⟨some 117, _, _, _, _, _⟩) (v := ?_) rfl (by kernel_rfl) (by kernel_rfl) (by kernel_rfl) (by kernel_rfl) (by kernel_rfl) (fun _ _ _ h => h) (Or.inl ⟨by rfl, ?_⟩) (by assumption) ?_
              rotate_left 1
              ·intro wq hSw
               (try dsimp only at hSw)
               go_simp
               try with_reducible rfl
              try simp only [Act.put, List.setIfInBounds_toArray, List.set_cons_zero, List.set_cons_succ]
              refine wpTill_pure (i := 3) (oi := ⟨some 118, _, _, _, _, _⟩) (v := ?_) rfl (by kernel_rfl) (by kernel_rfl) (by kernel_rfl) (fun _ _ _ h => h) (Or.inl ⟨by rfl, ?_⟩) ?_
              rotate_left 1
              ·intro wq _
               go_simp
               try with_reducible rfl
              try simp only [Act.put, List.setIfInBounds_toArray, List.set_cons_zero, List.set_cons_succ]
              refine wpTill_pure (i := 4) (oi := ⟨some 119, _, _, _, _, _⟩) (v := ?_) rfl (by kernel_rfl) (by kernel_rfl) (by kernel_rfl) (fun _ _ _ h => h) (Or.inl ⟨by rfl, ?_⟩) ?_
              rotate_left 1
              ·intro wq _
               go_simp
               try with_reducible rfl
              try simp only [Act.put, List.setIfInBounds_toArray, List.set_cons_zero, List.set_cons_succ]
              refine wpTill_one (i := 5) (o := ⟨some 120, _, _, _, _, _⟩) (by kernel_rfl) rfl (fun K hK => ?_)
              go_simp
              go_at_call 39
              refine (HPT.out _ HX.out.cur.drew1).mono ?_
              rintro e w1 hp
              obtain ⟨B1, m1, d1, rfl, hf1, ha1, hb1⟩ := HX.out.drew.part HTR.out hp
              have HF1 := Lib.hid hf1
              have HA1 := Lib.hid ha1
              have HG1 := Lib.hid (HX.out.drew.gblk hb1 (HGB.out.drewN 1))
              clear hp hf1 ha1 hb1
              try dsimp only
              refine hK.out _ _ ?_ (fun hHeld => ?_)
              ·exact ⟨HG1.out.cell 0, HF1.out.pblk⟩
              clear hK K
              try simp only [Act.put, List.setIfInBounds_toArray, List.set_cons_zero, List.set_cons_succ]
              refine wpTill_late (i := 6) (o := ⟨some 121, _, _, _, _, _⟩) (by kernel_rfl) rfl (by kernel_rfl) (fun K hK => ?_)
              go_simp
              go_at_call 19
              refine (HOP.out w1 _ _ _ (HF1.out.arg HG1.out) HA1.out).mono ?_
              rintro e w2 hp
              obtain ⟨B2, m2, d2, rfl, hf2, hr2, hd2, hb2⟩ := HF1.out.op hp
              have HF2 := Lib.hid hf2
              have HR2 := Lib.hid hr2
              have HG2 := Lib.hid (HG1.out.below hb2 HG1.out.lt)
              clear hp hf2 hr2 hb2
              try dsimp only
              refine hK.out _ _ ?_
              clear hK K
              try simp only [Act.put, List.setIfInBounds_toArray, List.set_cons_zero, List.set_cons_succ]
              refine wpTill_pure (i := 7) (oi := ⟨some 122, _, _, _, _, _⟩) (v := ?_) rfl (by kernel_rfl) (by kernel_rfl) (by kernel_rfl) (fun _ _ _ h => h) (Or.inl ⟨by rfl, ?_⟩) ?_
              rotate_left 1
              ·intro wq _
               go_simp
               try with_reducible rfl
              try simp only [Act.put, List.setIfInBounds_toArray, List.set_cons_zero, List.set_cons_succ]
              refine wpTill_pure (i := 8) (oi := ⟨some 123, _, _, _, _, _⟩) (v := ?_) rfl (by kernel_rfl) (by kernel_rfl) (by kernel_rfl) (fun _ _ _ h => h) (Or.inl ⟨by rfl, ?_⟩) ?_
              rotate_left 1
              ·intro wq _
               go_simp
               try with_reducible rfl
              try simp only [Act.put, List.setIfInBounds_toArray, List.set_cons_zero, List.set_cons_succ]
              refine wpTill_late (i := 9) (o := ⟨some 124, _, _, _, _, _⟩) (by kernel_rfl) rfl (by kernel_rfl) (fun K hK => ?_)
              go_simp
              go_at_call 76
              refine (keep_ok B2 m2 d2 w.heap.size wc.heap.size _ w2 HG2.out).mono ?_
              rintro e w3 ⟨rfl, rfl⟩
              have HF3 := Lib.hid (HF2.out.put HR2.out hd2 HTN.out)
              try dsimp only
              refine hK.out _ _ ?_
              clear hK K
              try simp only [Act.put, List.setIfInBounds_toArray, List.set_cons_zero, List.set_cons_succ]
              refine wpTill_done (by kernel_rfl) ?_ _
              generalize w2.setCell ⟨wc.heap.size, 0, none⟩ (.slice B2 m2 d2) = w9 at HF3 ⊢
              have p9 := HF3.out.pblk
              go_simp
              go_wp2_with fail
              refine (cur_skip _ C A n c L j2 HF3.out.cur).mono ?_
              rintro e w4 ⟨rfl, hc4, hb4⟩
              have HF4 := Lib.hid (HF3.out.keepB hb4 hc4)
              clear hc4 hb4
              go_wp2_with fail
              have hj2 := HTR0.out.1
              have hle := HF3.out.cur.le
              refine ⟨⟨f, j2, tn, HST.out, by omega, HF4.out⟩, ?_⟩
              have e1 : w4.cell? ⟨C, 1, none⟩ = some (.int .i64 ((skipP L j2 : Nat) : Int)) := HF4.out.cur.blk.cell 1
              have e2 : wr.cell? ⟨C, 1, none⟩ = some (.int .i64 ((j : Nat) : Int)) := HM0.out
              rw [e1, e2]
              simp only [Int.toNat_natCast]
              have := skipP_ge L j2
              omega
             ·rw [if_pos hx] at hst9
              have HRN := Lib.hid (HERR.out (x, j2) hst9)
              clear hst9
              go_upto_region 25 with fail
              refine wp_region_till (S := (fun w' => w'.cell? ⟨wc.heap.size, 0, none⟩ = some (.slice B m d) ∧ w'.cell? ⟨w.heap.size, 0, none⟩ = some (.pointer (some ⟨C, 0, none⟩)))) [1, 2] (by kernel_rfl) ⟨HGB.out.cell 0, HX.out.pblk⟩ (fun hHeld => ?_)
              refine wpTill_pure (i := 0) (oi := ⟨some 115, _, _, _, _, _⟩) (v := ?_) rfl (by kernel_rfl) (by kernel_rfl) (by kernel_rfl) (fun _ _ _ h => h) (Or.inl ⟨by rfl, ?_⟩) ?_
              rotate_left 1
              ·intro wq _
               go_simp
               try with_reducible rfl
              try simp only [Act.put, List.setIfInBounds_toArray, List.set_cons_zero, List.set_cons_succ]
              refine wpTill_take (i := 1) (oi := ⟨some 116, _, _, _, _, _⟩) (v := ?_) rfl (by kernel_rfl) (by kernel_rfl) (by kernel_rfl) (by kernel_rfl) (by kernel_rfl) (fun _ _ _ h => h) (Or.inl ⟨by rfl, ?_⟩) (by assumption) ?_
              rotate_left 1
              ·intro wq hSw
               (try dsimp only at hSw)
               go_simp
               try with_reducible rfl
              try simp only [Act.put, List.setIfInBounds_toArray, List.set_cons_zero, List.set_cons_succ]
              refine wpTill_take (i := 2) (oi := ⟨some 117, _, _, _, _, _⟩) (v := ?_) rfl (by kernel_rfl) (by kernel_rfl) (by kernel_rfl) (by kernel_rfl) (by kernel_rfl) (fun _ _ _ h => h) (Or.inl ⟨by rfl, ?_⟩) (by assumption) ?_
              rotate_left 1
              ·intro wq hSw
               (try dsimp only at hSw)
               go_simp
               try with_reducible rfl
              try simp only [Act.put, List.setIfInBounds_toArray, List.set_cons_zero, List.set_cons_succ]
              refine wpTill_pure (i := 3) (oi := ⟨some 118, _, _, _, _, _⟩) (v := ?_) rfl (by kernel_rfl) (by kernel_rfl) (by kernel_rfl) (fun _ _ _ h => h) (Or.inl ⟨by rfl, ?_⟩) ?_
              rotate_left 1
              ·intro wq _
               go_simp
               try with_reducible rfl
              try simp only [Act.put, List.setIfInBounds_toArray, List.set_cons_zero, List.set_cons_succ]
              refine wpTill_pure (i := 4) (oi := ⟨some 119, _, _, _, _, _⟩) (v := ?_) rfl (by kernel_rfl) (by kernel_rfl) (by kernel_rfl) (fun _ _ _ h => h) (Or.inl ⟨by rfl, ?_⟩) ?_
              rotate_left 1
              ·intro wq _
               go_simp
               try with_reducible rfl
              try simp only [Act.put, List.setIfInBounds_toArray, List.set_cons_zero, List.set_cons_succ]
              refine wpTill_one (i := 5) (o := ⟨some 120, _, _, _, _, _⟩) (by kernel_rfl) rfl (fun K hK => ?_)
              go_simp
              go_at_call 39
              refine (HPT.out _ HX.out.cur.drew1).mono ?_
              rintro e w1 hp
              obtain ⟨B1, m1, d1, rfl, hf1, ha1, hb1⟩ := HX.out.drew.part HTR.out hp
              have HF1 := Lib.hid hf1
              have HA1 := Lib.hid ha1
              have HG1 := Lib.hid (HX.out.drew.gblk hb1 (HGB.out.drewN 1))
              clear hp hf1 ha1 hb1
              try dsimp only
              refine hK.out _ _ ?_ (fun hHeld => ?_)
              ·exact ⟨HG1.out.cell 0, HF1.out.pblk⟩
              clear hK K
              try simp only [Act.put, List.setIfInBounds_toArray, List.set_cons_zero, List.set_cons_succ]
              refine wpTill_late (i := 6) (o := ⟨some 121, _, _, _, _, _⟩) (by kernel_rfl) rfl (by kernel_rfl) (fun K hK => ?_)
              go_simp
              go_at_call 19
              refine (HOP.out w1 _ _ _ (HF1.out.arg HG1.out) HA1.out).mono ?_
              rintro e w2 hp
              obtain ⟨B2, m2, d2, rfl, hf2, hr2, hd2, hb2⟩ := HF1.out.op hp
              have HF2 := Lib.hid hf2
              have HR2 := Lib.hid hr2
              have HG2 := Lib.hid (HG1.out.below hb2 HG1.out.lt)
              clear hp hf2 hr2 hb2
              try dsimp only
              refine hK.out _ _ ?_
              clear hK K
              try simp only [Act.put, List.setIfInBounds_toArray, List.set_cons_zero, List.set_cons_succ]
              refine wpTill_pure (i := 7) (oi := ⟨some 122, _, _, _, _, _⟩) (v := ?_) rfl (by kernel_rfl) (by kernel_rfl) (by kernel_rfl) (fun _ _ _ h => h) (Or.inl ⟨by rfl, ?_⟩) ?_
              rotate_left 1
              ·intro wq _
               go_simp
               try with_reducible rfl
              try simp only [Act.put, List.setIfInBounds_toArray, List.set_cons_zero, List.set_cons_succ]
              refine wpTill_pure (i := 8) (oi := ⟨some 123, _, _, _, _, _⟩) (v := ?_) rfl (by kernel_rfl) (by kernel_rfl) (by kernel_rfl) (fun _ _ _ h => h) (Or.inl ⟨by rfl, ?_⟩) ?_
              rotate_left 1
              ·intro wq _
               go_simp
               try with_reducible rfl
              try simp only [Act.put, List.setIfInBounds_toArray, List.set_cons_zero, List.set_cons_succ]
              refine wpTill_late (i := 9) (o := ⟨some 124, _, _, _, _, _⟩) (by kernel_rfl) rfl (by kernel_rfl) (fun K hK => ?_)
              go_simp
              go_at_call 76
              refine (keep_err B2 m2 d2 C w.heap.size wc.heap.size A n c L j2 x w2 hx HF2.out.box HF2.out.cur).mono ?_
              rintro e w3 ⟨he, rfl⟩
              unfold thrown at he
              subst he
              have HBE := Lib.hid HF2.out.but
              go_wp2_with fail
              rw [HRN.out]
              exact ⟨rfl, rfl, HBE.out⟩
          ·have hq45 : (r == 45) = false := by simp; exact h45
           have OPR := Lib.hid (show opOf (pk L (skipP L i0)) = 124 by rw [HJ.out, HRJ.out]; unfold opOf; rw [if_neg (by omega)])
           have HPT0 := Lib.hid (fun (W : World) (hc : CurAt W C A n c L j) => cur_span W C A n c L j hc HL.out)
           have HPP := Lib.hid (show partP' (setP' L lv) L (skipP L i0) = spanS L j by rw [HJ.out]; exact part_span (by rw [HRJ.out]; exact h91) (by rw [HRJ.out]; exact h38) (by rw [HRJ.out]; exact h45))
           have HX := HX6
           have HGB := HG6
           cases hres : spanS L j with
           | error e0 =>
             obtain ⟨x, p⟩ := e0
             have HRN := Lib.hid (HERR.out (x, p) (HGO.out.trans (partsP_err H93.out (HPP.out.trans hres))))
             have HPT := Lib.hid (fun (W : World) (hc : CurAt W C A n c L j) => show Calls Tryz.prog 79 #[.pointer (some ⟨C, 0, none⟩)] W (SetPost W C A n c L (.error (x, p))) by have := HPT0.out W hc; rwa [hres] at this)
             clear hres
             go_upto_region 13 with fail
             refine wp_region_till (S := (fun w' => w'.cell? ⟨wc.heap.size, 0, none⟩ = some (.slice B m d) ∧ w'.cell? ⟨w.heap.size, 0, none⟩ = some (.pointer (some ⟨C, 0, none⟩)))) [1, 2] (by kernel_rfl) ⟨HGB.out.cell 0, HX.out.pblk⟩ (fun hHeld => ?_)
             refine wpTill_pure (i := 0) (oi := ⟨some 44, _, _, _, _, _⟩) (v := ?_) rfl (by kernel_rfl) (by kernel_rfl) (by kernel_rfl) (fun _ _ _ h => h) (Or.inl ⟨by rfl, ?_⟩) ?_
             rotate_left 1
             ·intro wq _
              go_simp
              try with_reducible rfl
             try simp only [Act.put, List.setIfInBounds_toArray, List.set_cons_zero, List.set_cons_succ]
             refine wpTill_take (i := 1) (oi := ⟨some 45, _, _, _, _, _⟩) (v := ?_) rfl (by kernel_rfl) (by kernel_rfl) (by kernel_rfl) (by kernel_rfl) (by kernel_rfl) (fun _ _ _ h => h) (Or.inl ⟨by rfl, ?_⟩) (by assumption) ?_
             rotate_left 1
             ·intro wq hSw
              (try dsimp only at hSw)
              go_simp
              try with_reducible rfl
             try simp only [Act.put, List.setIfInBounds_toArray, List.set_cons_zero, List.set_cons_succ]
             refine wpTill_take (i := 2) (oi := ⟨some 46, _, _, _, _, _⟩) (v := ?_) rfl (by kernel_rfl) (by kernel_rfl) (by kernel_rfl) (by kernel_rfl) (by kernel_rfl) (fun _ _ _ h => h) (Or.inl ⟨by rfl, ?_⟩) (by assumption) ?_
             rotate_left 1
             ·intro wq hSw
              (try dsimp only at hSw)
              go_simp
              try with_reducible rfl
             try simp only [Act.put, List.setIfInBounds_toArray, List.set_cons_zero, List.set_cons_succ]
             refine wpTill_one (i := 3) (o := ⟨some 47, _, _, _, _, _⟩) (by kernel_rfl) rfl (fun K hK => ?_)
             go_simp
             go_at_call 79
             refine (HPT.out _ HX.out.cur.drew1).mono ?_
             rintro e w1 ⟨he, hb⟩
             unfold thrown at he
             subst he
             have HBE := Lib.hid (HX.out.drew.but.trans hb)
             clear hb
             go_wp2_with fail
             rw [HRN.out]
             exact ⟨rfl, rfl, HBE.out⟩
           | ok q =>
             obtain ⟨t, j2⟩ := q
             have HTR0 := Lib.hid (HPOK.out t j2 (HPP.out.trans hres))
             have HTR := Lib.hid HTR0.out.2
             have HPT := Lib.hid (fun (W : World) (hc : CurAt W C A n c L j) => show Calls Tryz.prog 79 #[.pointer (some ⟨C, 0, none⟩)] W (SetPost W C A n c L (.ok (t, j2))) by have := HPT0.out W hc; rwa [hres] at this)
             obtain ⟨tn, x, ho⟩ : ∃ tn x, opP 124 s t = (tn, x) := ⟨_, _, rfl⟩
             have HOP := Lib.hid (fun (W : World) (B1 : Option Addr) (m1 d1 : Nat) (h1 : SetArg W B m d s) (h2 : SetArg W B1 m1 d1 t) => show Calls Tryz.prog 17 #[.slice B m d, .slice B1 m1 d1] W (SetTuple W (tn, x)) by have := sets_union B B1 m d m1 d1 s t W h1 h2; rwa [ho] at this)
             have HTN := Lib.hid (show RightSet tn by have := op_right 124 HX.out.right HTR.out; rwa [ho] at this)
             have hst9 := HGO.out.trans (partsP_step H93.out (HPP.out.trans hres))
             rw [OPR.out, ho] at hst9
             simp only at hst9
             clear hres ho
             by_cases hx : x = 0
             ·subst hx
              rw [if_neg (fun h => h rfl)] at hst9
              have HST := Lib.hid hst9
              clear hst9
              go_upto_region 13 with fail
              refine wp_region_till (S := (fun w' => w'.cell? ⟨wc.heap.size, 0, none⟩ = some (.slice B m d) ∧ w'.cell? ⟨w.heap.size, 0, none⟩ = some (.pointer (some ⟨C, 0, none⟩)))) [1, 2] (by kernel_rfl) ⟨HGB.out.cell 0, HX.out.pblk⟩ (fun hHeld => ?_)
              refine wpTill_pure (i := 0) (oi := ⟨some 44, _, _, _, _, _⟩) (v := ?_) rfl (by kernel_rfl) (by kernel_rfl) (by kernel_rfl) (fun _ _ _ h => h) (Or.inl ⟨by rfl, ?_⟩) ?_
              rotate_left 1
              ·intro wq _
               go_simp
               try with_reducible rfl
              try simp only [Act.put, List.setIfInBounds_toArray, List.set_cons_zero, List.set_cons_succ]
              refine wpTill_take (i := 1) (oi := ⟨some 45, _, _, _, _, _⟩) (v := ?_) rfl (by kernel_rfl) (by kernel_rfl) (by kernel_rfl) (by kernel_rfl) (by kernel_rfl) (fun _ _ _ h => h) (Or.inl ⟨by rfl, ?_⟩) (by assumption) ?_
              rotate_left 1
              ·intro wq hSw
               (try dsimp only at hSw)
               go_simp
               try with_reducible rfl
              try simp only [Act.put, List.setIfInBounds_toArray, List.set_cons_zero, List.set_cons_succ]
              refine wpTill_take (i := 2) (oi := ⟨some 46, _, _, _, _, _⟩) (v := ?_) rfl (by kernel_rfl) (by kernel_rfl) (by kernel_rfl) (by kernel_rfl) (by kernel_rfl) (fun _ _ _ h => h) (Or.inl ⟨by rfl, ?_⟩) (by assumption) ?_
              rotate_left 1
              ·intro wq hSw
               (try dsimp only at hSw)
               go_simp
               try with_reducible rfl
              try simp only [Act.put, List.setIfInBounds_toArray, List.set_cons_zero, List.set_cons_succ]
              refine wpTill_one (i := 3) (o := ⟨some 47, _, _, _, _, _⟩) (by kernel_rfl) rfl (fun K hK => ?_)
              go_simp
              go_at_call 79
              refine (HPT.out _ HX.out.cur.drew1).mono ?_
              rintro e w1 hp
              obtain ⟨B1, m1, d1, rfl, hf1, ha1, hb1⟩ := HX.out.drew.part HTR.out hp
              have HF1 := Lib.hid hf1
              have HA1 := Lib.hid ha1
              have HG1 := Lib.hid (HX.out.drew.gblk hb1 (HGB.out.drewN 1))
              clear hp hf1 ha1 hb1
              try dsimp only
              refine hK.out _ _ ?_ (fun hHeld => ?_)
              ·exact ⟨HG1.out.cell 0, HF1.out.pblk⟩
              clear hK K
              try simp only [Act.put, List.setIfInBounds_toArray, List.set_cons_zero, List.set_cons_succ]
              refine wpTill_late (i := 4) (o := ⟨some 48, _, _, _, _, _⟩) (by kernel_rfl) rfl (by kernel_rfl) (fun K hK => ?_)
              go_simp
              go_at_call 17
              refine (HOP.out w1 _ _ _ (HF1.out.arg HG1.out) HA1.out).mono ?_
              rintro e w2 hp
              obtain ⟨B2, m2, d2, rfl, hf2, hr2, hd2, hb2⟩ := HF1.out.op hp
              have HF2 := Lib.hid hf2
              have HR2 := Lib.hid hr2
              have HG2 := Lib.hid (HG1.out.below hb2 HG1.out.lt)
              clear hp hf2 hr2 hb2
              try dsimp only
              refine hK.out _ _ ?_
              clear hK K
              try simp only [Act.put, List.setIfInBounds_toArray, List.set_cons_zero, List.set_cons_succ]
              refine wpTill_pure (i := 5) (oi := ⟨some 49, _, _, _, _, _⟩) (v := ?_) rfl (by kernel_rfl) (by kernel_rfl) (by kernel_rfl) (fun _ _ _ h => h) (Or.inl ⟨by rfl, ?_⟩) ?_
              rotate_left 1
              ·intro wq _
               go_simp
               try with_reducible rfl
              try simp only [Act.put, List.setIfInBounds_toArray, List.set_cons_zero, List.set_cons_succ]
              refine wpTill_pure (i := 6) (oi := ⟨some 50, _, _, _, _, _⟩) (v := ?_) rfl (by kernel_rfl) (by kernel_rfl) (by kernel_rfl) (fun _ _ _ h => h) (Or.inl ⟨by rfl, ?_⟩) ?_
              rotate_left 1
              ·intro wq _
               go_simp
               try with_reducible rfl
              try simp only [Act.put, List.setIfInBounds_toArray, List.set_cons_zero, List.set_cons_succ]
              refine wpTill_late (i := 7) (o := ⟨some 51, _, _, _, _, _⟩) (by kernel_rfl) rfl (by kernel_rfl) (fun K hK => ?_)
              go_simp
              go_at_call 76
              refine (keep_ok B2 m2 d2 w.heap.size wc.heap.size _ w2 HG2.out).mono ?_
              rintro e w3 ⟨rfl, rfl⟩
              have HF3 := Lib.hid (HF2.out.put HR2.out hd2 HTN.out)
              try dsimp only
              refine hK.out _ _ ?_
              clear hK K
              try simp only [Act.put, List.setIfInBounds_toArray, List.set_cons_zero, List.set_cons_succ]
              refine wpTill_done (by kernel_rfl) ?_ _
              generalize w2.setCell ⟨wc.heap.size, 0, none⟩ (.slice B2 m2 d2) = w9 at HF3 ⊢
              have p9 := HF3.out.pblk
              go_simp
              go_wp2_with fail
              refine (cur_skip _ C A n c L j2 HF3.out.cur).mono ?_
              rintro e w4 ⟨rfl, hc4, hb4⟩
              have HF4 := Lib.hid (HF3.out.keepB hb4 hc4)
              clear hc4 hb4
              go_wp2_with fail
              have hj2 := HTR0.out.1
              have hle := HF3.out.cur.le
              refine ⟨⟨f, j2, tn, HST.out, by omega, HF4.out⟩, ?_⟩
              have e1 : w4.cell? ⟨C, 1, none⟩ = some (.int .i64 ((skipP L j2 : Nat) : Int)) := HF4.out.cur.blk.cell 1
              have e2 : wr.cell? ⟨C, 1, none⟩ = some (.int .i64 ((j : Nat) : Int)) := HM0.out
              rw [e1, e2]
              simp only [Int.toNat_natCast]
              have := skipP_ge L j2
              omega
             ·rw [if_pos hx] at hst9
              have HRN := Lib.hid (HERR.out (x, j2) hst9)
              clear hst9
              go_upto_region 13 with fail
              refine wp_region_till (S := (fun w' => w'.cell? ⟨wc.heap.size, 0, none⟩ = some (.slice B m d) ∧ w'.cell? ⟨w.heap.size, 0, none⟩ = some (.pointer (some ⟨C, 0, none⟩)))) [1, 2] (by kernel_rfl) ⟨HGB.out.cell 0, HX.out.pblk⟩ (fun hHeld => ?_)
              refine wpTill_pure (i := 0) (oi := ⟨some 44, _, _, _, _, _⟩) (v := ?_) rfl (by kernel_rfl) (by kernel_rfl) (by kernel_rfl) (fun _ _ _ h => h) (Or.inl ⟨by rfl, ?_⟩) ?_
              rotate_left 1
              ·intro wq _
               go_simp
               try with_reducible rfl
              try simp only [Act.put, List.setIfInBounds_toArray, List.set_cons_zero, List.set_cons_succ]
              refine wpTill_take (i := 1) (oi := ⟨some 45, _, _, _, _, _⟩) (v := ?_) rfl (by kernel_rfl) (by kernel_rfl) (by kernel_rfl) (by kernel_rfl) (by kernel_rfl) (fun _ _ _ h => h) (Or.inl ⟨by rfl, ?_⟩) (by assumption) ?_
              rotate_left 1
              ·intro wq hSw
               (try dsimp only at hSw)
               go_simp
               try with_reducible rfl
              try simp only [Act.put, List.setIfInBounds_toArray, List.set_cons_zero, List.set_cons_succ]
              refine wpTill_take (i := 2) (oi := ⟨some 46, _, _, _, _, _⟩) (v := ?_) rfl (by kernel_rfl) (by kernel_rfl) (by kernel_rfl) (by kernel_rfl) (by kernel_rfl) (fun _ _ _ h => h) (Or.inl ⟨by rfl, ?_⟩) (by assumption) ?_
              rotate_left 1
              ·intro wq hSw
               (try dsimp only at hSw)
               go_simp
               try with_reducible rfl
              try simp only [Act.put, List.setIfInBounds_toArray, List.set_cons_zero, List.set_cons_succ]
              refine wpTill_one (i := 3) (o := ⟨some 47, _, _, _, _, _⟩) (by kernel_rfl) rfl (fun K hK => ?_)
              go_simp
              go_at_call 79
              refine (HPT.out _ HX.out.cur.drew1).mono ?_
              rintro e w1 hp
              obtain ⟨B1, m1, d1, rfl, hf1, ha1, hb1⟩ := HX.out.drew.part HTR.out hp
              have HF1 := Lib.hid hf1
              have HA1 := Lib.hid ha1
              have HG1 := Lib.hid (HX.out.drew.gblk hb1 (HGB.out.drewN 1))
              clear hp hf1 ha1 hb1
              try dsimp only
              refine hK.out _ _ ?_ (fun hHeld => ?_)
              ·exact ⟨HG1.out.cell 0, HF1.out.pblk⟩
              clear hK K
              try simp only [Act.put, List.setIfInBounds_toArray, List.set_cons_zero, List.set_cons_succ]
              refine wpTill_late (i := 4) (o := ⟨some 48, _, _, _, _, _⟩) (by kernel_rfl) rfl (by kernel_rfl) (fun K hK => ?_)
              go_simp
              go_at_call 17
              refine (HOP.out w1 _ _ _ (HF1.out.arg HG1.out) HA1.out).mono ?_
              rintro e w2 hp
              obtain ⟨B2, m2, d2, rfl, hf2, hr2, hd2, hb2⟩ := HF1.out.op hp
              have HF2 := Lib.hid hf2
              have HR2 := Lib.hid hr2
              have HG2 := Lib.hid (HG1.out.below hb2 HG1.out.lt)
              clear hp hf2 hr2 hb2
              try dsimp only
              refine hK.out _ _ ?_
              clear hK K
              try simp only [Act.put, List.setIfInBounds_toArray, List.set_cons_zero, List.set_cons_succ]
              refine wpTill_pure (i := 5) (oi := ⟨some 49, _, _, _, _, _⟩) (v := ?_) rfl (by kernel_rfl) (by kernel_rfl) (by kernel_rfl) (fun _ _ _ h => h) (Or.inl ⟨by rfl, ?_⟩) ?_
              rotate_left 1
              ·intro wq _
               go_simp
               try with_reducible rfl
              try simp only [Act.put, List.setIfInBounds_toArray, List.set_cons_zero, List.set_cons_succ]
              refine wpTill_pure (i := 6) (oi := ⟨some 50, _, _, _, _, _⟩) (v := ?_) rfl (by kernel_rfl) (by kernel_rfl) (by kernel_rfl) (fun _ _ _ h => h) (Or.inl ⟨by rfl, ?_⟩) ?_
              rotate_left 1
              ·intro wq _
               go_simp
               try with_reducible rfl
              try simp only [Act.put, List.setIfInBounds_toArray, List.set_cons_zero, List.set_cons_succ]
              refine wpTill_late (i := 7) (o := ⟨some 51, _, _, _, _, _⟩) (by kernel_rfl) rfl (by kernel_rfl) (fun K hK => ?_)
              go_simp
              go_at_call 76
              refine (keep_err B2 m2 d2 C w.heap.size wc.heap.size A n c L j2 x w2 hx HF2.out.box HF2.out.cur).mono ?_
              rintro e w3 ⟨he, rfl⟩
              unfold thrown at he
              subst he
              have HBE := Lib.hid HF2.out.but
              go_wp2_with fail
              rw [HRN.out]
              exact ⟨rfl, rfl, HBE.out⟩
end Go.Proofs.YthnhbcohfoodlaaGreatDoor
