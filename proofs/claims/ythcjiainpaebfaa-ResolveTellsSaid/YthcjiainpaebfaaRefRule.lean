/- scriptref6.Ready, a round of its loop at a rule: a declaration of its own. -/
import Derived.Test.YthcjiainpaebfaaRefWrong
namespace Go.Proofs.Ythcjiainpaebfaa
open Go.RowKit Go.Maps

/-- The body of the first loop. -/
def loopOf : Code → Option Code
  | .loop c => some c
  | .seq a b => match loopOf a with
    | some c => some c
    | none => loopOf b
  | .block _ c => loopOf c
  | .scope c => loopOf c
  | .cond _ a b => match loopOf a with
    | some c => some c
    | none => loopOf b
  | _ => none
noncomputable def rfBody : Code := ((Try.f7.body.bind loopOf).getD .skip)
set_option maxRecDepth 1000000 in
/-- The loop's invariant, in the walk's own shape. -/
def RfInv (B : Nat) (A : Option Addr) (n c : Nat) (l : List PartD) (back : Bool) (w w1 : World) (a : Act) (w' : World) : Prop :=
  ∃ u8 u9 u10 u11 u12 u13 u14 u15 u16 u17 u18 u30 u31 u32 u33 u34 u35 u36 u37 u38 u39 u40 u41 u42 u43 u44 u45 u46 u47 u48 u49 u50 u51 u52 u53 u54 u55 u56 u57 u58 u59 u60 u61 u62 u63 u64 u65 u66 u67 u68 u69 u70 u71 u72 u73 u74 u75 u76 u77 u78 u79 u80 u81 u82 u83 u84 u85 u86 u87 u88 u89 u90 u91 u92 u93 u94 u95 u96 u97 u98 u99 u100 u101 u102 u103 u104 u105 u106 u107 u108 u109 u110 u111 u112 u113 u114 u115 u116 u117 u118 u119 u120 u121 u122 u123 u124 u125 u126 u127 u128 u129 u130 u131 u132 u133 u134 u135 u136 u137 u138 u139 u140 u141 u142 u143 u144 u145 u146 u147 u148 u149 u150 : Value, RfRel B w (w1.heap.size + 1) back l n u8 u30 w' ∧ a = ⟨#[.slice A n c, .bool back, undef, undef, .pointer (some ⟨w.heap.size, 0, none⟩), .pointer (some ⟨w.heap.size + 1, 0, none⟩), .pointer (some ⟨w1.heap.size, 0, none⟩), .pointer (some ⟨w1.heap.size + 1, 0, none⟩), u8, u9, u10, u11, u12, u13, u14, u15, u16, u17, u18, undef, undef, .slice A n c, .agg #[.int .i64 0, .int .i64 0], .pointer (some ⟨w1.heap.size, 0, none⟩), .int .i64 0, .bool false, undef, undef, .slice A n c, .int .i64 n, u30, u31, u32, u33, u34, u35, u36, u37, u38, u39, u40, u41, u42, u43, u44, u45, u46, u47, u48, u49, u50, u51, u52, u53, u54, u55, u56, u57, u58, u59, u60, u61, u62, u63, u64, u65, u66, u67, u68, u69, u70, u71, u72, u73, u74, u75, u76, u77, u78, u79, u80, u81, u82, u83, u84, u85, u86, u87, u88, u89, u90, u91, u92, u93, u94, u95, u96, u97, u98, u99, u100, u101, u102, u103, u104, u105, u106, u107, u108, u109, u110, u111, u112, u113, u114, u115, u116, u117, u118, u119, u120, u121, u122, u123, u124, u125, u126, u127, u128, u129, u130, u131, u132, u133, u134, u135, u136, u137, u138, u139, u140, u141, u142, u143, u144, u145, u146, u147, u148, u149, u150, undef, undef, undef, undef, undef, undef, undef, undef, undef, undef, undef, undef, undef, undef, undef, undef, undef, undef, undef, undef, undef], []⟩

set_option maxRecDepth 1000000 in
set_option maxHeartbeats 25600000 in
theorem rf_rule (B n c k nf cf : Nat) (A Af : Option Addr) (l : List PartD) (back op : Bool) (w w1 wr : World) (s : StD) (vp : Value) (K : Act → World → Prop) {u9 u10 u11 u12 u13 u14 u15 u16 u17 u18 u31 u32 u33 u34 u35 u36 u37 u38 u39 u40 u41 u42 u43 u44 u45 u46 u47 u48 u49 u50 u51 u52 u53 u54 u55 u56 u57 u58 u59 u60 u61 u62 u63 u64 u65 u66 u67 u68 u69 u70 u71 u72 u73 u74 u75 u76 u77 u78 u79 u80 u81 u82 u83 u84 u85 u86 u87 u88 u89 u90 u91 u92 u93 u94 u95 u96 u97 u98 u99 u100 u101 u102 u103 u104 u105 u106 u107 u108 u109 u110 u111 u112 u113 u114 u115 u116 u117 u118 u119 u120 u121 u122 u123 u124 u125 u126 u127 u128 u129 u130 u131 u132 u133 u134 u135 u136 u137 u138 u139 u140 u141 u142 u143 u144 u145 u146 u147 u148 u149 u150 : Value} (hBw : B ≤ w.heap.size) (hn200 : n ≤ 200) (HW0 : RowKit.Hid ((fileP l).1 = 0)) (HN : RowKit.Hid (n ≤ maxLen)) (HALL : RowKit.Hid (∀ p ∈ l, partP p = 0)) (HLEN : RowKit.Hid (l.length = n)) (HL : RowKit.Hid (RdP w B A n l)) (hlo : w.heap.size + 2 ≤ w1.heap.size + 1) (hus : uptoP back l k = .ok s) (hat : RfAt w (w1.heap.size + 1) (.bool s.some?) (.slice Af nf cf) vp wr) (hsz : w1.heap.size + 1 + 1 ≤ wr.heap.size) (hset : SetV w (· < B) s.only (.slice Af nf cf)) (hps : PsD B (w1.heap.size + 1 + 1) op s.a s.ps vp wr) (la : s.a.length ≤ k) (lp : s.ps.length ≤ 2 * k) (hk : k ≤ n) (hlt : k < n) (p : PartD) (hp : l[k]? = some p) (hk2 : p.kind = 2) :
    let Q' := bodyPost Try.prog Try.f7 (fun e w' => RfPost B w.heap.size w' l back e ∧ Below w.heap.size w w')
    Code.wp Try.prog rfBody (Exit.then (fun a' w'' => RfInv B A n c l back w w1 a' w'' ∧ n - (intOf (a'.tmps.getD 30 undef)).toNat < n - (intOf (#[.slice A n c, .bool back, undef, undef, .pointer (some ⟨w.heap.size, 0, none⟩), .pointer (some ⟨w.heap.size + 1, 0, none⟩), .pointer (some ⟨w1.heap.size, 0, none⟩), .pointer (some ⟨w1.heap.size + 1, 0, none⟩), .bool op, u9, u10, u11, u12, u13, u14, u15, u16, u17, u18, undef, undef, .slice A n c, .agg #[.int .i64 0, .int .i64 0], .pointer (some ⟨w1.heap.size, 0, none⟩), .int .i64 0, .bool false, undef, undef, .slice A n c, .int .i64 n, .int .i64 k, u31, u32, u33, u34, u35, u36, u37, u38, u39, u40, u41, u42, u43, u44, u45, u46, u47, u48, u49, u50, u51, u52, u53, u54, u55, u56, u57, u58, u59, u60, u61, u62, u63, u64, u65, u66, u67, u68, u69, u70, u71, u72, u73, u74, u75, u76, u77, u78, u79, u80, u81, u82, u83, u84, u85, u86, u87, u88, u89, u90, u91, u92, u93, u94, u95, u96, u97, u98, u99, u100, u101, u102, u103, u104, u105, u106, u107, u108, u109, u110, u111, u112, u113, u114, u115, u116, u117, u118, u119, u120, u121, u122, u123, u124, u125, u126, u127, u128, u129, u130, u131, u132, u133, u134, u135, u136, u137, u138, u139, u140, u141, u142, u143, u144, u145, u146, u147, u148, u149, u150, undef, undef, undef, undef, undef, undef, undef, undef, undef, undef, undef, undef, undef, undef, undef, undef, undef, undef, undef, undef, undef].getD 30 undef)).toNat) (Exit.inBlock 0 (Exit.then K Q'))) ⟨#[.slice A n c, .bool back, undef, undef, .pointer (some ⟨w.heap.size, 0, none⟩), .pointer (some ⟨w.heap.size + 1, 0, none⟩), .pointer (some ⟨w1.heap.size, 0, none⟩), .pointer (some ⟨w1.heap.size + 1, 0, none⟩), .bool op, u9, u10, u11, u12, u13, u14, u15, u16, u17, u18, undef, undef, .slice A n c, .agg #[.int .i64 0, .int .i64 0], .pointer (some ⟨w1.heap.size, 0, none⟩), .int .i64 0, .bool false, undef, undef, .slice A n c, .int .i64 n, .int .i64 k, u31, u32, u33, u34, u35, u36, u37, u38, u39, u40, u41, u42, u43, u44, u45, u46, u47, u48, u49, u50, u51, u52, u53, u54, u55, u56, u57, u58, u59, u60, u61, u62, u63, u64, u65, u66, u67, u68, u69, u70, u71, u72, u73, u74, u75, u76, u77, u78, u79, u80, u81, u82, u83, u84, u85, u86, u87, u88, u89, u90, u91, u92, u93, u94, u95, u96, u97, u98, u99, u100, u101, u102, u103, u104, u105, u106, u107, u108, u109, u110, u111, u112, u113, u114, u115, u116, u117, u118, u119, u120, u121, u122, u123, u124, u125, u126, u127, u128, u129, u130, u131, u132, u133, u134, u135, u136, u137, u138, u139, u140, u141, u142, u143, u144, u145, u146, u147, u148, u149, u150, undef, undef, undef, undef, undef, undef, undef, undef, undef, undef, undef, undef, undef, undef, undef, undef, undef, undef, undef, undef, undef], []⟩ wr := by
  intro Q'
  obtain ⟨i0, hi, hz0, hz1, hz2⟩ := info_parts infoPassB
  obtain ⟨j0, hj, hy0, hy1, hy2⟩ := info_parts infoRuleB
  unfold RfInv
  conv => arg 2; whnf
  have HK2 := Lib.hid hk2
  clear hk2
  have hpk := part_kinds (HALL.out p (List.mem_of_getElem? hp))
  have hb := hat.2.2.2
  obtain ⟨b, off, A', n', c', L1, L2, L3, R1, R2, R3, a1, a2, a3, x1, x2, x3, b1, b2, b3, y1, y2, y3, rfl, hbb, ⟨f0, f1, f2, f3, f4, f5, f6, f7, f8, f9, f10, f11, f12, f13, f14, f15⟩, hs, hn', l1, l2, l3, la1, la2, la3, r1, r2, r3, ra1, ra2, ra3, cl, cr, hm⟩ := part_at HL.out hp
  have d0 := (hb.cell (p := ⟨b, off + k * 16, none⟩) (Nat.lt_of_lt_of_le hbb hBw)).trans f0
  have d1 := (hb.cell (p := ⟨b, off + k * 16 + 1, none⟩) (Nat.lt_of_lt_of_le hbb hBw)).trans f1
  have d2 := (hb.cell (p := ⟨b, off + k * 16 + 2, none⟩) (Nat.lt_of_lt_of_le hbb hBw)).trans f2
  have d3 := (hb.cell (p := ⟨b, off + k * 16 + 3, none⟩) (Nat.lt_of_lt_of_le hbb hBw)).trans f3
  have d4 := (hb.cell (p := ⟨b, off + k * 16 + 4, none⟩) (Nat.lt_of_lt_of_le hbb hBw)).trans f4
  have d5 := (hb.cell (p := ⟨b, off + k * 16 + 5, none⟩) (Nat.lt_of_lt_of_le hbb hBw)).trans f5
  have d6 := (hb.cell (p := ⟨b, off + k * 16 + 6, none⟩) (Nat.lt_of_lt_of_le hbb hBw)).trans f6
  have d7 := (hb.cell (p := ⟨b, off + k * 16 + 7, none⟩) (Nat.lt_of_lt_of_le hbb hBw)).trans f7
  have d8 := (hb.cell (p := ⟨b, off + k * 16 + 8, none⟩) (Nat.lt_of_lt_of_le hbb hBw)).trans f8
  have d9 := (hb.cell (p := ⟨b, off + k * 16 + 9, none⟩) (Nat.lt_of_lt_of_le hbb hBw)).trans f9
  have d10 := (hb.cell (p := ⟨b, off + k * 16 + 10, none⟩) (Nat.lt_of_lt_of_le hbb hBw)).trans f10
  have d11 := (hb.cell (p := ⟨b, off + k * 16 + 11, none⟩) (Nat.lt_of_lt_of_le hbb hBw)).trans f11
  have d12 := (hb.cell (p := ⟨b, off + k * 16 + 12, none⟩) (Nat.lt_of_lt_of_le hbb hBw)).trans f12
  have d13 := (hb.cell (p := ⟨b, off + k * 16 + 13, none⟩) (Nat.lt_of_lt_of_le hbb hBw)).trans f13
  have d14 := (hb.cell (p := ⟨b, off + k * 16 + 14, none⟩) (Nat.lt_of_lt_of_le hbb hBw)).trans f14
  have d15 := (hb.cell (p := ⟨b, off + k * 16 + 15, none⟩) (Nat.lt_of_lt_of_le hbb hBw)).trans f15
  clear f0 f1 f2 f3 f4 f5 f6 f7 f8 f9 f10 f11 f12 f13 f14 f15
  have HAT := Lib.hid (hat.alloc (.cells #[.int .i64 p.kind, .string p.name, .slice A' n' c', .int .i64 p.dir, .bool p.left.start, .bool p.left.fin, .slice L1 a1 x1, .slice L2 a2 x2, .slice L3 a3 x3, .int .i64 p.left.cursor, .bool p.right.start, .bool p.right.fin, .slice R1 b1 y1, .slice R2 b2 y2, .slice R3 b3 y3, .int .i64 p.right.cursor] 40))
  have HPS := Lib.hid (hps.below ((Below.refl wr.heap.size wr).alloc (Nat.le_refl _) (.cells #[.int .i64 p.kind, .string p.name, .slice A' n' c', .int .i64 p.dir, .bool p.left.start, .bool p.left.fin, .slice L1 a1 x1, .slice L2 a2 x2, .slice L3 a3 x3, .int .i64 p.left.cursor, .bool p.right.start, .bool p.right.fin, .slice R1 b1 y1, .slice R2 b2 y2, .slice R3 b3 y3, .int .i64 p.right.cursor] 40)))
  have HKP := Lib.hid (Blk.new wr 40 #[.int .i64 p.kind, .string p.name, .slice A' n' c', .int .i64 p.dir, .bool p.left.start, .bool p.left.fin, .slice L1 a1 x1, .slice L2 a2 x2, .slice L3 a3 x3, .int .i64 p.left.cursor, .bool p.right.start, .bool p.right.fin, .slice R1 b1 y1, .slice R2 b2 y2, .slice R3 b3 y3, .int .i64 p.right.cursor])
  have HUS := Lib.hid (uptoP_step hus hp)
  have HPK := Lib.hid hpk
  have HP0 := Lib.hid (HALL.out p (List.mem_of_getElem? hp))
  have HSS := Lib.hid hs
  have HLS := Lib.hid (And.intro l1 (And.intro l2 (And.intro l3 (And.intro r1 (And.intro r2 r3)))))
  clear hat hps hus hp hpk hs hb
  go_upto_block 2 with fail
  have hs2 : (wr.alloc (.cells #[.int .i64 p.kind, .string p.name, .slice A' n' c', .int .i64 p.dir, .bool p.left.start, .bool p.left.fin, .slice L1 a1 x1, .slice L2 a2 x2, .slice L3 a3 x3, .int .i64 p.left.cursor, .bool p.right.start, .bool p.right.fin, .slice R1 b1 y1, .slice R2 b2 y2, .slice R3 b3 y3, .int .i64 p.right.cursor] 40)).heap.size = wr.heap.size + 1 := by simp
  clear l1 l2 l3 la1 la2 la3 r1 r2 r3 ra1 ra2 ra3 cl cr
  clear d0 d1 d2 d3 d4 d5 d6 d7 d8 d9 d10 d11 d12 d13 d14 d15
  generalize (wr.alloc (.cells #[.int .i64 p.kind, .string p.name, .slice A' n' c', .int .i64 p.dir, .bool p.left.start, .bool p.left.fin, .slice L1 a1 x1, .slice L2 a2 x2, .slice L3 a3 x3, .int .i64 p.left.cursor, .bool p.right.start, .bool p.right.fin, .slice R1 b1 y1, .slice R2 b2 y2, .slice R3 b3 y3, .int .i64 p.right.cursor] 40)) = W2 at *
  have e0 : W2.cell? ⟨wr.heap.size, 0, none⟩ = some (.int .i64 p.kind) := HKP.out.cell 0
  have e1 : W2.cell? ⟨wr.heap.size, 1, none⟩ = some (.string p.name) := HKP.out.cell 1
  have e2 : W2.cell? ⟨wr.heap.size, 2, none⟩ = some (.slice A' n' c') := HKP.out.cell 2
  have hkk := HPK.out
  clear HPK
  rcases hkk with ⟨h1, h2, h3⟩ | ⟨h1, h3⟩ | ⟨h1, h2⟩ | ⟨h1, hr⟩
  · exact absurd (h1.symm.trans HK2.out) (by decide)
  · exact absurd (h1.symm.trans HK2.out) (by decide)
  · exact absurd (h1.symm.trans HK2.out) (by decide)
  clear HK2
  have q1 : (p.kind == 1) = false := by rw [h1]; rfl
  have q3 : (p.kind == 3) = false := by rw [h1]; rfl
  have q4 : (p.kind == 4) = false := by rw [h1]; rfl
  obtain ⟨hdir, ⟨ka1, ka2, ka3⟩, ⟨kb1, kb2, kb3⟩⟩ := hr
  obtain ⟨hcl, hcr⟩ := rule_cursors HP0.out h1
  obtain ⟨l1, l2, l3, r1, r2, r3⟩ := HLS.out
  have wk := fun (w' : World) (hb : Below W2.heap.size W2 w') => weak_of ((HAT.out.2.2.2.trans (hb.mono HAT.out.2.2.2.size)).mono hBw) (Nat.le_refl B)
  have hR1 := ref_rule (some ⟨b, off, none⟩) n c l k p.left p.right L1 L2 L3 R1 R2 R3 a1 a2 a3 x1 x2 x3 b1 b2 b3 y1 y2 y3 W2 B (Nat.le_trans hBw HAT.out.2.2.2.size) HN.out (by omega) (RdP.weak (wk _ (Below.refl _ _)) HL.out) (RdIt.weak (wk _ (Below.refl _ _)) l1) (RdIt.weak (wk _ (Below.refl _ _)) l2) (RdIt.weak (wk _ (Below.refl _ _)) l3) ka1 ka2 ka3 (RdIt.weak (wk _ (Below.refl _ _)) r2) kb2 hcr
  have hR2 := fun (w' : World) (hb : Below W2.heap.size W2 w') => ref_rule (some ⟨b, off, none⟩) n c l k p.right p.left R1 R2 R3 L1 L2 L3 b1 b2 b3 y1 y2 y3 a1 a2 a3 x1 x2 x3 w' B (Nat.le_trans (Nat.le_trans hBw HAT.out.2.2.2.size) hb.size) HN.out (by omega) (RdP.weak (wk _ hb) HL.out) (RdIt.weak (wk _ hb) r1) (RdIt.weak (wk _ hb) r2) (RdIt.weak (wk _ hb) r3) kb1 kb2 kb3 (RdIt.weak (wk _ hb) l2) ka2 hcl
  generalize hX : ruleP' (l.take k) p.left p.right = X at hR1
  generalize hY : ruleP' (l.take k) p.right p.left = Y at hR2
  generalize hbx : X.isSome = bx at *
  generalize hby : Y.isSome = bz at *
  have HRA := Lib.hid hR1
  have HRB := Lib.hid hR2
  have H1 := Lib.hid h1
  have HX := Lib.hid hX
  have HY := Lib.hid hY
  have HBX2 := Lib.hid hbx
  have HBY2 := Lib.hid hby
  have hb0 := HKP.out.lt
  have m4 : W2.cell? ⟨wr.heap.size, 4, none⟩ = some (.bool p.left.start) := HKP.out.cell 4
  have m5 : W2.cell? ⟨wr.heap.size, 5, none⟩ = some (.bool p.left.fin) := HKP.out.cell 5
  have m6 : W2.cell? ⟨wr.heap.size, 6, none⟩ = some (.slice L1 a1 x1) := HKP.out.cell 6
  have m7 : W2.cell? ⟨wr.heap.size, 7, none⟩ = some (.slice L2 a2 x2) := HKP.out.cell 7
  have m8 : W2.cell? ⟨wr.heap.size, 8, none⟩ = some (.slice L3 a3 x3) := HKP.out.cell 8
  have m9 : W2.cell? ⟨wr.heap.size, 9, none⟩ = some (.int .i64 p.left.cursor) := HKP.out.cell 9
  have m10 : W2.cell? ⟨wr.heap.size, 10, none⟩ = some (.bool p.right.start) := HKP.out.cell 10
  have m11 : W2.cell? ⟨wr.heap.size, 11, none⟩ = some (.bool p.right.fin) := HKP.out.cell 11
  have m12 : W2.cell? ⟨wr.heap.size, 12, none⟩ = some (.slice R1 b1 y1) := HKP.out.cell 12
  have m13 : W2.cell? ⟨wr.heap.size, 13, none⟩ = some (.slice R2 b2 y2) := HKP.out.cell 13
  have m14 : W2.cell? ⟨wr.heap.size, 14, none⟩ = some (.slice R3 b3 y3) := HKP.out.cell 14
  have m15 : W2.cell? ⟨wr.heap.size, 15, none⟩ = some (.int .i64 p.right.cursor) := HKP.out.cell 15
  clear hR1 hR2 hX hY hbx hby h1 hdir hcl hcr l1 l2 l3 r1 r2 r3 wk ka1 ka2 ka3 kb1 kb2 kb3
  go_wp2_with fail
  refine HRA.out.mono ?_
  rintro e wa ⟨⟨cs, hc7, he, hc1, hcr⟩, hba⟩
  rw [HBX2.out] at he
  subst he
  obtain ⟨u0, u1, u2, u3, u4, u5, u6, rfl⟩ := list7 hc7
  have o0 := fun (w : World) (a : Addr) (m : Mode) => run_store Try.prog w a u0 m (hc1 u0 (by simp))
  have o1 := fun (w : World) (a : Addr) (m : Mode) => run_store Try.prog w a u1 m (hc1 u1 (by simp))
  have o2 := fun (w : World) (a : Addr) (m : Mode) => run_store Try.prog w a u2 m (hc1 u2 (by simp))
  have o3 := fun (w : World) (a : Addr) (m : Mode) => run_store Try.prog w a u3 m (hc1 u3 (by simp))
  have o4 := fun (w : World) (a : Addr) (m : Mode) => run_store Try.prog w a u4 m (hc1 u4 (by simp))
  have o5 := fun (w : World) (a : Addr) (m : Mode) => run_store Try.prog w a u5 m (hc1 u5 (by simp))
  have o6 := fun (w : World) (a : Addr) (m : Mode) => run_store Try.prog w a u6 m (hc1 u6 (by simp))
  have HC1 := Lib.hid hc1
  have HCR := Lib.hid hcr
  have HBA := Lib.hid hba
  clear hc7 hc1 hcr hba HRA m4 m5 m6 m7 m8 m9 m10 m11 m12 m13 m14 m15
  go_upto_region 11 with fail
  have hu : Blk (wa.alloc (.cells #[u0, u1, u2, u3, u4, u5, u6] 59)) wa.heap.size 59 #[u0, u1, u2, u3, u4, u5, u6] := Blk.new wa _ _
  have hbu : Below wa.heap.size wa (wa.alloc (.cells #[u0, u1, u2, u3, u4, u5, u6] 59)) := (Below.refl _ _).alloc (Nat.le_refl _) _
  have hzu : wa.heap.size + 1 ≤ (wa.alloc (.cells #[u0, u1, u2, u3, u4, u5, u6] 59)).heap.size := by simp
  have hba := HBA.out
  clear HBA
  generalize (wa.alloc (.cells #[u0, u1, u2, u3, u4, u5, u6] 59)) = W4 at *
  have hb4 : Below W2.heap.size W2 W4 := hba.trans (hbu.mono hba.size)
  have hkp4 := Blk.below HKP.out hb4 hb0
  have m4 : W4.cell? ⟨wr.heap.size, 4, none⟩ = some (.bool p.left.start) := hkp4.cell 4
  have m5 : W4.cell? ⟨wr.heap.size, 5, none⟩ = some (.bool p.left.fin) := hkp4.cell 5
  have m6 : W4.cell? ⟨wr.heap.size, 6, none⟩ = some (.slice L1 a1 x1) := hkp4.cell 6
  have m7 : W4.cell? ⟨wr.heap.size, 7, none⟩ = some (.slice L2 a2 x2) := hkp4.cell 7
  have m8 : W4.cell? ⟨wr.heap.size, 8, none⟩ = some (.slice L3 a3 x3) := hkp4.cell 8
  have m9 : W4.cell? ⟨wr.heap.size, 9, none⟩ = some (.int .i64 p.left.cursor) := hkp4.cell 9
  have m10 : W4.cell? ⟨wr.heap.size, 10, none⟩ = some (.bool p.right.start) := hkp4.cell 10
  have m11 : W4.cell? ⟨wr.heap.size, 11, none⟩ = some (.bool p.right.fin) := hkp4.cell 11
  have m12 : W4.cell? ⟨wr.heap.size, 12, none⟩ = some (.slice R1 b1 y1) := hkp4.cell 12
  have m13 : W4.cell? ⟨wr.heap.size, 13, none⟩ = some (.slice R2 b2 y2) := hkp4.cell 13
  have m14 : W4.cell? ⟨wr.heap.size, 14, none⟩ = some (.slice R3 b3 y3) := hkp4.cell 14
  have m15 : W4.cell? ⟨wr.heap.size, 15, none⟩ = some (.int .i64 p.right.cursor) := hkp4.cell 15
  have HCR4 := Lib.hid (fun rd h => (HCR.out rd h).keep (Keeps.below (X' := fun b => Fr B W2.heap.size b ∧ b ≠ wa.heap.size) hbu (fun b h hl => ⟨h, by omega⟩)))
  have hlt4 := hkp4.lt
  have hza := hba.size
  have hz4 := hb4.size
  have HKP4 := Lib.hid hkp4
  have HU := Lib.hid hu
  have HB4 := Lib.hid hb4
  clear hu hbu hba hb4 hkp4 HCR
  go_wp2_with fail
  refine (HRB.out W4 HB4.out).mono ?_
  rintro e wb ⟨⟨ds, hd7, he, hd1, hdr⟩, hbb⟩
  rw [HBY2.out] at he
  subst he
  obtain ⟨v0, v1, v2, v3, v4, v5, v6, rfl⟩ := list7 hd7
  have r0 := fun (w : World) (a : Addr) (m : Mode) => run_store Try.prog w a v0 m (hd1 v0 (by simp))
  have r1 := fun (w : World) (a : Addr) (m : Mode) => run_store Try.prog w a v1 m (hd1 v1 (by simp))
  have r2 := fun (w : World) (a : Addr) (m : Mode) => run_store Try.prog w a v2 m (hd1 v2 (by simp))
  have r3 := fun (w : World) (a : Addr) (m : Mode) => run_store Try.prog w a v3 m (hd1 v3 (by simp))
  have r4 := fun (w : World) (a : Addr) (m : Mode) => run_store Try.prog w a v4 m (hd1 v4 (by simp))
  have r5 := fun (w : World) (a : Addr) (m : Mode) => run_store Try.prog w a v5 m (hd1 v5 (by simp))
  have r6 := fun (w : World) (a : Addr) (m : Mode) => run_store Try.prog w a v6 m (hd1 v6 (by simp))
  have HD1 := Lib.hid hd1
  have HDR := Lib.hid hdr
  have HBB := Lib.hid hbb
  clear hd7 hd1 hdr hbb HRB m4 m5 m6 m7 m8 m9 m10 m11 m12 m13 m14 m15
  go_upto_region 12 with fail
  have hv : Blk (wb.alloc (.cells #[v0, v1, v2, v3, v4, v5, v6] 59)) wb.heap.size 59 #[v0, v1, v2, v3, v4, v5, v6] := Blk.new wb _ _
  have hbv : Below wb.heap.size wb (wb.alloc (.cells #[v0, v1, v2, v3, v4, v5, v6] 59)) := (Below.refl _ _).alloc (Nat.le_refl _) _
  have hbb := HBB.out
  clear HBB
  generalize (wb.alloc (.cells #[v0, v1, v2, v3, v4, v5, v6] 59)) = W5 at *
  have hb5 : Below W4.heap.size W4 W5 := hbb.trans (hbv.mono hbb.size)
  have hzb := hbb.size
  have hz5 := hb5.size
  have HB5 := Lib.hid (HB4.out.trans (hb5.mono HB4.out.size))
  have HAT5 := Lib.hid (HAT.out.below HB5.out)
  have HU5 := Lib.hid (Blk.below HU.out hb5 HU.out.lt)
  have HV5 := Lib.hid hv
  have HCR5 := Lib.hid (fun rd h => (HCR4.out rd h).keep (Keeps.below (X' := fun b => Fr B W2.heap.size b ∧ b ≠ wa.heap.size) hb5 (fun _ h _ => h)))
  have hwz := HAT.out.2.2.2.size
  have HDR5 := Lib.hid (fun rd h => (HDR.out rd h).keep (Keeps.below (X' := fun b => Fr B W2.heap.size b ∧ b ≠ wa.heap.size) hbv (fun b h _ => ⟨h.imp id (fun h => by omega), by rcases h with h | h <;> omega⟩)))
  clear hv hbv hbb hb5 HCR4 HDR HU HKP4 HB4
  cases bx with
  | false =>
    have HFP := Lib.hid (rf_fail (B := B) (lo := w.heap.size) (er := 7) (back := back) HW0.out (by rw [HLEN.out]; exact hlt) (HUS.out.trans (step_rule_no H1.out (by rw [HX.out, HBX2.out]; rfl))))
    have z0 : W5.cell? ⟨w.heap.size, 0, none⟩ = some (.bool false) := HAT5.out.1.cell 0
    have z1 : W5.cell? ⟨w.heap.size, 1, none⟩ = some (.slice none 0 0) := HAT5.out.1.cell 1
    have z2 : W5.cell? ⟨w.heap.size, 2, none⟩ = some (.slice none 0 0) := HAT5.out.1.cell 2
    have z3 : W5.cell? ⟨w.heap.size + 1, 0, none⟩ = some (.int .i64 0) := HAT5.out.2.1.cell 0
    have z4 : W5.cell? ⟨w.heap.size + 1, 1, none⟩ = some (.int .i64 0) := HAT5.out.2.1.cell 1
    have y0 := HAT5.out.1.frozen 0
    have y1 := HAT5.out.1.frozen 1
    have y2 := HAT5.out.1.frozen 2
    have y3 := HAT5.out.2.1.frozen 0
    have y4 := HAT5.out.2.1.frozen 1
    have FB := Lib.hid HAT5.out.2.2.2
    go_wp2_with fail
    have hbl := ((((FB.out.setCell (p := ⟨w.heap.size, 0, none⟩) (by simp) (.bool false)).setCell (p := ⟨w.heap.size, 1, none⟩) (by simp) (.slice none 0 0)).setCell (p := ⟨w.heap.size, 2, none⟩) (by simp) (.slice none 0 0)).setCell (p := ⟨w.heap.size + 1, 0, none⟩) (by simp) (.int .i64 7)).setCell (p := ⟨w.heap.size + 1, 1, none⟩) (by simp) (.int .i64 k)
    refine bodyPost_ret (v := .tuple #[.agg #[.bool false, .slice none 0 0, .slice none 0 0], .agg #[.int .i64 7, .int .i64 k]]) (by simp [results, Try.results7, go_sem, z0, z1, z2, z3, z4]) rfl ⟨HFP.out _, ?_⟩
    exact hbl
  | true =>
  cases bz with
  | false =>
    have HFP := Lib.hid (rf_fail (B := B) (lo := w.heap.size) (er := 7) (back := back) HW0.out (by rw [HLEN.out]; exact hlt) (HUS.out.trans (step_rule_no H1.out (by rw [HX.out, HBX2.out, HY.out, HBY2.out]; rfl))))
    have z0 : W5.cell? ⟨w.heap.size, 0, none⟩ = some (.bool false) := HAT5.out.1.cell 0
    have z1 : W5.cell? ⟨w.heap.size, 1, none⟩ = some (.slice none 0 0) := HAT5.out.1.cell 1
    have z2 : W5.cell? ⟨w.heap.size, 2, none⟩ = some (.slice none 0 0) := HAT5.out.1.cell 2
    have z3 : W5.cell? ⟨w.heap.size + 1, 0, none⟩ = some (.int .i64 0) := HAT5.out.2.1.cell 0
    have z4 : W5.cell? ⟨w.heap.size + 1, 1, none⟩ = some (.int .i64 0) := HAT5.out.2.1.cell 1
    have y0 := HAT5.out.1.frozen 0
    have y1 := HAT5.out.1.frozen 1
    have y2 := HAT5.out.1.frozen 2
    have y3 := HAT5.out.2.1.frozen 0
    have y4 := HAT5.out.2.1.frozen 1
    have FB := Lib.hid HAT5.out.2.2.2
    go_wp2_with fail
    have hbl := ((((FB.out.setCell (p := ⟨w.heap.size, 0, none⟩) (by simp) (.bool false)).setCell (p := ⟨w.heap.size, 1, none⟩) (by simp) (.slice none 0 0)).setCell (p := ⟨w.heap.size, 2, none⟩) (by simp) (.slice none 0 0)).setCell (p := ⟨w.heap.size + 1, 0, none⟩) (by simp) (.int .i64 7)).setCell (p := ⟨w.heap.size + 1, 1, none⟩) (by simp) (.int .i64 k)
    refine bodyPost_ret (v := .tuple #[.agg #[.bool false, .slice none 0 0, .slice none 0 0], .agg #[.int .i64 7, .int .i64 k]]) (by simp [results, Try.results7, go_sem, z0, z1, z2, z3, z4]) rfl ⟨HFP.out _, ?_⟩
    exact hbl
  | true =>
    obtain ⟨x, rfl⟩ := Option.isSome_iff_exists.1 HBX2.out
    obtain ⟨y, rfl⟩ := Option.isSome_iff_exists.1 HBY2.out
    have HUS2 := Lib.hid (HUS.out.trans (step_rule H1.out HX.out HY.out))
    have HCX := Lib.hid (HCR5.out x rfl)
    have HCY := Lib.hid (HDR5.out y rfl)
    have hhs : W2.heap.size ≤ wa.heap.size := hza
    clear HCR5 HDR5 HX HY HBX2 HBY2 HUS e0 e1 e2
    go_upto_if 66 with fail
    go_cut [] (fun wx => ∃ c0 c1 c2 c3 c4 c5 c6 : Value, Below W2.heap.size W2 wx ∧ Blk wx wa.heap.size 59 #[c0, c1, c2, c3, c4, c5, c6] ∧ (∀ u ∈ [c0, c1, c2, c3, c4, c5, c6], u.oneCell' = true) ∧ RuleC wx (fun b => Fr B W2.heap.size b ∧ b ≠ wa.heap.size) (if back = true then y else x) [c0, c1, c2, c3, c4, c5, c6])
    case first =>
      cases back
      · go_wp2_with fail
        go_meet
        exact ⟨_, _, _, _, _, _, _, HB5.out, HU5.out, HC1.out, HCX.out⟩
      · have hwv : wb.heap.size ≠ wa.heap.size := by omega
        have hlv := HV5.out.lt
        have tv0 : W5.cell? ⟨wb.heap.size, 0, none⟩ = some v0 := HV5.out.cell 0
        have tv1 : W5.cell? ⟨wb.heap.size, 1, none⟩ = some v1 := HV5.out.cell 1
        have tv2 : W5.cell? ⟨wb.heap.size, 2, none⟩ = some v2 := HV5.out.cell 2
        have tv3 : W5.cell? ⟨wb.heap.size, 3, none⟩ = some v3 := HV5.out.cell 3
        have tv4 : W5.cell? ⟨wb.heap.size, 4, none⟩ = some v4 := HV5.out.cell 4
        have tv5 : W5.cell? ⟨wb.heap.size, 5, none⟩ = some v5 := HV5.out.cell 5
        have tv6 : W5.cell? ⟨wb.heap.size, 6, none⟩ = some v6 := HV5.out.cell 6
        have tu0 : W5.cell? ⟨wa.heap.size, 0, none⟩ = some u0 := HU5.out.cell 0
        have tu1 : W5.cell? ⟨wa.heap.size, 1, none⟩ = some u1 := HU5.out.cell 1
        have tu2 : W5.cell? ⟨wa.heap.size, 2, none⟩ = some u2 := HU5.out.cell 2
        have tu3 : W5.cell? ⟨wa.heap.size, 3, none⟩ = some u3 := HU5.out.cell 3
        have tu4 : W5.cell? ⟨wa.heap.size, 4, none⟩ = some u4 := HU5.out.cell 4
        have tu5 : W5.cell? ⟨wa.heap.size, 5, none⟩ = some u5 := HU5.out.cell 5
        have tu6 : W5.cell? ⟨wa.heap.size, 6, none⟩ = some u6 := HU5.out.cell 6
        have fz0 := HU5.out.frozen 0
        have fz1 := HU5.out.frozen 1
        have fz2 := HU5.out.frozen 2
        have fz3 := HU5.out.frozen 3
        have fz4 := HU5.out.frozen 4
        have fz5 := HU5.out.frozen 5
        have fz6 := HU5.out.frozen 6
        go_wp2_with fail
        go_meet
        refine ⟨_, _, _, _, _, _, _, below7 HB5.out hhs v0 v1 v2 v3 v4 v5 v6, ?_, HD1.out, HCY.out.keep (keep7 (fun b h => h.2) v0 v1 v2 v3 v4 v5 v6)⟩
        exact ((((((HU5.out.put 0 v0).put 1 v1).put 2 v2).put 3 v3).put 4 v4).put 5 v5).put 6 v6
    case rest =>
      obtain ⟨c0, c1, c2, c3, c4, c5, c6, hbc, hxc, hone, hrc⟩ := hcut
      clear HAT5 HU5 HV5 HB5 HC1 HD1 HCX HCY o0 o1 o2 o3 o4 o5 o6 r0 r1 r2 r3 r4 r5 r6
      generalize hrd : (if back = true then y else x) = rd at *
      have HRD := Lib.hid hrd
      have HBC := Lib.hid hbc
      have HXC := Lib.hid hxc
      have HON := Lib.hid hone
      have HRC := Lib.hid hrc
      have hkp5 := Blk.below HKP.out hbc hb0
      have dd : wc.cell? ⟨wr.heap.size, 3, none⟩ = some (.int .i64 p.dir) := hkp5.cell 3
      clear hrd hbc hxc hone hrc hkp5
      go_upto_region 16 with fail
      go_cut [82] (fun s82 wx => ∃ sk : Bool, s82 = .bool sk ∧ (sk = true ↔ ((back = true ∧ p.dir = 1) ∨ (back = false ∧ p.dir = 2))) ∧ wx = wc)
      case first =>
        cases back
        · by_cases hd : p.dir = 2
          · have hq : (p.dir == 2) = true := by simpa using hd
            go_wp2_with fail
            go_meet
            exact ⟨true, rfl, by simp [hd], rfl⟩
          · have hq : (p.dir == 2) = false := by simpa using hd
            go_wp2_with fail
            go_meet
            exact ⟨false, rfl, by simp [hd], rfl⟩
        · by_cases hd : p.dir = 1
          · have hq : (p.dir == 1) = true := by simpa using hd
            go_wp2_with fail
            go_meet
            exact ⟨true, rfl, by simp [hd], rfl⟩
          · have hq : (p.dir == 1) = false := by simpa using hd
            go_wp2_with fail
            go_meet
            exact ⟨false, rfl, by simp [hd], rfl⟩
      case rest =>
        obtain ⟨sk, rfl, hsk, rfl⟩ := hcut
        have HSK := Lib.hid hsk
        have hzc := HBC.out.size
        clear dd hsk
        cases sk
        case true =>
          have HUS3 := Lib.hid (show uptoP back l (k + 1) = .ok s by rw [HUS2.out, if_pos (HSK.out.1 rfl)])
          go_wp2_with fail
          exact ⟨⟨k + 1, s, op, vp, Af, nf, cf, hlt, by go_num, rfl, HUS3.out, HAT.out.below HBC.out, by omega, hlo, hset, HPS.out.below HBC.out, by omega, by omega⟩, by simp only [intOf]; omega⟩
        case false =>
          have HUS3 := Lib.hid (show uptoP back l (k + 1) = .ok ⟨s.some?, s.only, s.ps, s.a ++ [rd]⟩ by rw [HUS2.out, if_neg (fun h => by have := HSK.out.2 h; cases this)])
          have HATC := Lib.hid (HAT.out.below HBC.out)
          go_upto_if 84 with fail
          go_cut [8] (fun s8 wx => s8 = .bool true ∧ ∃ (va vp' : Value), OpD B (w1.heap.size + 1 + 1) va s.a s.ps vp' wx ∧ RfAt w (w1.heap.size + 1) (.bool s.some?) (.slice Af nf cf) vp' wx ∧ Blk wx wa.heap.size 59 #[c0, c1, c2, c3, c4, c5, c6] ∧ RuleC wx (Rows4 B (w1.heap.size + 1 + 1) va (.slice none 0 0) vp' (.slice none 0 0)) rd [c0, c1, c2, c3, c4, c5, c6] ∧ w1.heap.size + 1 + 1 ≤ wx.heap.size ∧ ∀ b, va.ownBlock = some b → b ≠ wa.heap.size)
          case first =>
            have hps := HPS.out
            rcases hps with ⟨rfl, ha, hcl⟩ | ⟨rfl, ha, va, hop⟩
            · have hclc := hcl.below HBC.out
              have hrow := ClD.row hcl
              have hwx : wa.heap.size ≠ w1.heap.size + 1 := by omega
              obtain ⟨Ap, kp, rfl, _⟩ := hclc.2.2.1.form
              have x2 : wc.cell? ⟨w1.heap.size + 1, 2, none⟩ = some (.slice Ap s.ps.length kp) := HATC.out.2.2.1.cell 2
              have hrc2 := HRC.out.keep (Keeps.refl (X' := Rows4 B (w1.heap.size + 1 + 1) (.slice none 0 0) (.slice none 0 0) (.slice Ap s.ps.length kp) (.slice none 0 0)) (fun b hb => by
                rcases hb.1 with h | h
                · exact .inl h
                · exact .inr ⟨by omega, by simp [Value.ownBlock], by simp [Value.ownBlock], fun e => by have := (hrow b e).2; omega, by simp [Value.ownBlock]⟩))
              have hcl2 := hclc
              obtain ⟨_, _, ⟨css, g1, g2, g3, g4⟩, _⟩ := hcl2
              have G1 := Lib.hid g1
              have G2 := Lib.hid g2
              have G3 := Lib.hid g3
              have G4 := Lib.hid g4
              have HRC2 := Lib.hid hrc2
              have HA0 := Lib.hid ha
              have HN2 := Lib.hid (Rd.new wc 55 2 1 [.string ⟨#[]⟩, .slice none 0 0] rfl)
              have HO := Lib.hid (World.ownsRow.alloc g4 (.cells #[.string ⟨#[]⟩, .slice none 0 0] 55))
              have H1C := Lib.hid (show ∀ u ∈ [Value.string ⟨#[]⟩, Value.slice none 0 0], u.oneCell' = true by intro x hx; simp at hx; rcases hx with rfl | rfl <;> rfl)
              have hgt := HATC.out.2.2.1.lt
              clear ha hcl hclc hrow hrc2 g1 g2 g3 g4 HAT HPS HKP HBC HRC
              go_wp2_with (at_builtin; refine wpList_append_rd _ rfl (.tmp 86) (.tmp 88) 24 rfl (w1.heap.size + 1 + 1) 55 i0 _ 2 40 Try.underlying24 hi hz0 hz1 hz2 rfl (by decide) _ _ _ rfl HO.out _ (some ⟨wc.heap.size, 0, none⟩) 1 1 [.string ⟨#[]⟩, .slice none 0 0] rfl HN2.out H1C.out (by simp only [maxLen]; omega) (by omega) (by simp; omega) ?_)
              intro v9 w9 happ
              have ho9 := happ.own
              obtain ⟨A9, k9, rfl, _⟩ := own_form ho9
              clear ho9
              have hat9 := (HATC.out.alloc _).app HO.out (by decide) (by decide) (by omega) happ
              have x9 : w9.cell? ⟨w1.heap.size + 1, 2, none⟩ = some (.slice Ap s.ps.length kp) := hat9.2.2.1.cell 2
              have f9 := hat9.2.2.1.frozen 2
              have HOP9 := Lib.hid ((ClD.start (by omega) G1.out G2.out G3.out G4.out happ).set (g := w1.heap.size + 1) (i := 2) (u := .slice A9 (s.ps.length + 1) k9) (by omega) (by omega))
              have HAT9 := Lib.hid (hat9.set2 hlo (.slice A9 (s.ps.length + 1) k9))
              have HX9 := Lib.hid (blk_set_ne (g := w1.heap.size + 1) (i := 2) (u := .slice A9 (s.ps.length + 1) k9) (blk_app (Blk.alloc HXC.out _) HO.out (by decide) happ) hwx)
              have HR9 := Lib.hid ((HRC2.out.keep (keeps_pushP (by omega) G4.out happ)).keep (rows_set (g := w1.heap.size + 1) (i := 2) (u := .slice A9 (s.ps.length + 1) k9) (by omega) (by omega)))
              have hl9 := hat9.2.2.1.lt
              clear happ hat9
              go_wp2_with fail
              go_meet
              refine ⟨rfl, .slice none 0 0, .slice A9 (s.ps.length + 1) k9, ?_, HAT9.out, HX9.out, HR9.out, by simp; omega, fun b hb => by simp [Value.ownBlock] at hb⟩
              rw [HA0.out]
              exact HOP9.out
            · have hopc := hop.below HBC.out
              have hrow := OpD.row hop
              have HRC2 := Lib.hid (HRC.out.keep (Keeps.refl (X' := Rows4 B (w1.heap.size + 1 + 1) va (.slice none 0 0) vp (.slice none 0 0)) (fun b hb => by
                rcases hb.1 with h | h
                · exact .inl h
                · exact .inr ⟨by omega, fun e => by have := (hrow.1 b e).2; omega, by simp [Value.ownBlock], fun e => by have := (hrow.2 b e).2; omega, by simp [Value.ownBlock]⟩)))
              have HOP9 := Lib.hid hopc
              have HVW := Lib.hid (fun b (hb : va.ownBlock = some b) => (show b ≠ wa.heap.size by have := (hrow.1 b hb).2; omega))
              clear ha hop hopc hrow
              go_wp2_with fail
              go_meet
              exact ⟨rfl, va, vp, HOP9.out, HATC.out, HXC.out, HRC2.out, by omega, HVW.out⟩
          case rest =>
            obtain ⟨rfl, va, vp', hop, hat6, hx6, hr6, hz6, hvw⟩ := hcut
            obtain ⟨g, cp, Aa, ca, rfl, hg1, hg2, rfl⟩ := hop.form
            have hop2 := hop
            obtain ⟨_, css0, g01, _, g03, g04⟩ := hop2
            obtain ⟨⟨cssA, p1, p2, p3, p4⟩, css, g1, g2, g3, g4⟩ := hop.below (Below.refl wc.heap.size wc).drew
            have x2 : wc.cell? ⟨w1.heap.size + 1, 2, none⟩ = some (.slice (some ⟨g, 0, none⟩) (s.ps.length + 1) cp) := hat6.2.2.1.cell 2
            have tc0 : wc.cell? ⟨wa.heap.size, 0, none⟩ = some c0 := hx6.cell 0
            have tc1 : wc.cell? ⟨wa.heap.size, 1, none⟩ = some c1 := hx6.cell 1
            have tc2 : wc.cell? ⟨wa.heap.size, 2, none⟩ = some c2 := hx6.cell 2
            have tc3 : wc.cell? ⟨wa.heap.size, 3, none⟩ = some c3 := hx6.cell 3
            have tc4 : wc.cell? ⟨wa.heap.size, 4, none⟩ = some c4 := hx6.cell 4
            have tc5 : wc.cell? ⟨wa.heap.size, 5, none⟩ = some c5 := hx6.cell 5
            have tc6 : wc.cell? ⟨wa.heap.size, 6, none⟩ = some c6 := hx6.cell 6
            have z9 : wc.cell? ⟨g, s.ps.length * 2 + 1, none⟩ = some (.slice Aa s.a.length ca) := by
              have := World.ownsRow.cells g04 (g := g) rfl (s.ps.length * 2 + 1) (.slice Aa s.a.length ca) (by rw [List.getElem?_append_right (by rw [flat2 g03, g01]; omega), flat2 g03, g01, show s.ps.length * 2 + 1 - s.ps.length * 2 = 1 by omega]; rfl)
              rwa [add_at, Nat.zero_add] at this
            have hwg : wa.heap.size ≠ g := ne_row_blk g04 hx6
            have HOP := Lib.hid hop
            have HVW := Lib.hid hvw
            clear hvw
            have HAT6 := Lib.hid hat6
            have HX6 := Lib.hid hx6
            have HR6 := Lib.hid (hr6.keep (Keeps.below (Below.refl wc.heap.size wc).drew (fun _ h _ => h)))
            have PA1 := Lib.hid p1
            have PA2 := Lib.hid p2
            have PA3 := Lib.hid p3
            have PA4 := Lib.hid p4
            have G1 := Lib.hid g1
            have G2 := Lib.hid g2
            have G3 := Lib.hid g3
            have G4 := Lib.hid g4
            clear hop hat6 hx6 hr6 p1 p2 p3 p4 g1 g2 g3 g4 g01 g03 g04 HATC HXC HRC HBC HAT HPS HKP
            go_upto_region 21 with fail
            have hg2' : (s.ps.length : Int) < (s.ps.length : Int) + 1 := by omega
            have hgd : g < wc.drew.heap.size := hg2
            have HATD := Lib.hid (HAT6.out.below (Below.refl _ _).drew)
            have HXD := Lib.hid (Blk.drewN HX6.out 1)
            have HO6 := Lib.hid (World.ownsRow.alloc PA4.out (.cells #[c0, c1, c2, c3, c4, c5, c6] 59))
            have HN6 := Lib.hid (Rd.new wc.drew 59 7 1 [c0, c1, c2, c3, c4, c5, c6] rfl)
            have hzd : w1.heap.size + 1 + 1 ≤ wc.drew.heap.size := hz6
            refine wp_region_held_drew (S := fun w' => w'.cell? ⟨w1.heap.size + 1, 2, none⟩ = some (.slice (some ⟨g, 0, none⟩) (s.ps.length + 1) cp) ∧ w'.cell? ⟨wa.heap.size, 0, none⟩ = some c0 ∧ w'.cell? ⟨wa.heap.size, 1, none⟩ = some c1 ∧ w'.cell? ⟨wa.heap.size, 2, none⟩ = some c2 ∧ w'.cell? ⟨wa.heap.size, 3, none⟩ = some c3 ∧ w'.cell? ⟨wa.heap.size, 4, none⟩ = some c4 ∧ w'.cell? ⟨wa.heap.size, 5, none⟩ = some c5 ∧ w'.cell? ⟨wa.heap.size, 6, none⟩ = some c6) (by as_aux_lemma => kernel_rfl) (sk_of _ HATD.out HXD.out) (fun hHeld => ?_)
            try simp only [Act.put]
            refine wpAnyH_take (i := 0) (v := ?_) rfl (by as_aux_lemma => kernel_rfl) (by as_aux_lemma => kernel_rfl) (by as_aux_lemma => kernel_rfl) (fun _ _ _ h => h) (Or.inl ⟨by rfl, ?_⟩) (by assumption) ?_
            rotate_left 1
            · intro w hSw
              (try dsimp only at hSw)
              go_simp
              try with_reducible rfl
            try simp only [Act.put]
            refine wpAnyH_take (i := 1) (v := ?_) rfl (by as_aux_lemma => kernel_rfl) (by as_aux_lemma => kernel_rfl) (by as_aux_lemma => kernel_rfl) (fun _ _ _ h => h) (Or.inl ⟨by rfl, ?_⟩) (by assumption) ?_
            rotate_left 1
            · intro w hSw
              (try dsimp only at hSw)
              go_simp
              try with_reducible rfl
            try simp only [Act.put]
            refine wpAnyH_take (i := 2) (v := ?_) rfl (by as_aux_lemma => kernel_rfl) (by as_aux_lemma => kernel_rfl) (by as_aux_lemma => kernel_rfl) (fun _ _ _ h => h) (Or.inl ⟨by rfl, ?_⟩) (by assumption) ?_
            rotate_left 1
            · intro w hSw
              (try dsimp only at hSw)
              go_simp
              try with_reducible rfl
            try simp only [Act.put]
            refine wpAnyH_take (i := 3) (v := ?_) rfl (by as_aux_lemma => kernel_rfl) (by as_aux_lemma => kernel_rfl) (by as_aux_lemma => kernel_rfl) (fun _ _ _ h => h) (Or.inl ⟨by rfl, ?_⟩) (by assumption) ?_
            rotate_left 1
            · intro w hSw
              (try dsimp only at hSw)
              go_simp
              try with_reducible rfl
            try simp only [Act.put]
            refine wpAnyH_take (i := 4) (v := ?_) rfl (by as_aux_lemma => kernel_rfl) (by as_aux_lemma => kernel_rfl) (by as_aux_lemma => kernel_rfl) (fun _ _ _ h => h) (Or.inl ⟨by rfl, ?_⟩) (by assumption) ?_
            rotate_left 1
            · intro w hSw
              (try dsimp only at hSw)
              go_simp
              try with_reducible rfl
            try simp only [Act.put]
            refine wpAnyH_take (i := 5) (v := ?_) rfl (by as_aux_lemma => kernel_rfl) (by as_aux_lemma => kernel_rfl) (by as_aux_lemma => kernel_rfl) (fun _ _ _ h => h) (Or.inl ⟨by rfl, ?_⟩) (by assumption) ?_
            rotate_left 1
            · intro w hSw
              (try dsimp only at hSw)
              go_simp
              try with_reducible rfl
            try simp only [Act.put]
            refine wpAnyH_take (i := 6) (v := ?_) rfl (by as_aux_lemma => kernel_rfl) (by as_aux_lemma => kernel_rfl) (by as_aux_lemma => kernel_rfl) (fun _ _ _ h => h) (Or.inl ⟨by rfl, ?_⟩) (by assumption) ?_
            rotate_left 1
            · intro w hSw
              (try dsimp only at hSw)
              go_simp
              try with_reducible rfl
            try simp only [Act.put]
            refine wpAnyH_take (i := 7) (v := ?_) rfl (by as_aux_lemma => kernel_rfl) (by as_aux_lemma => kernel_rfl) (by as_aux_lemma => kernel_rfl) (fun _ _ _ h => h) (Or.inl ⟨by rfl, ?_⟩) (by assumption) ?_
            rotate_left 1
            · intro w hSw
              (try dsimp only at hSw)
              go_simp
              try with_reducible rfl
            try simp only [Act.put]
            refine wpAnyH_take (i := 9) (v := ?_) rfl (by as_aux_lemma => kernel_rfl) (by as_aux_lemma => kernel_rfl) (by as_aux_lemma => kernel_rfl) (fun _ _ _ h => h) (Or.inl ⟨by rfl, ?_⟩) (by assumption) ?_
            rotate_left 1
            · intro w hSw
              (try dsimp only at hSw)
              go_simp
              try with_reducible rfl
            try simp only [Act.put]
            refine wpAnyH_ready (rs := [8, 10]) (by as_aux_lemma => kernel_rfl) (by simp) ?_
            refine AllReadyH.cons rfl (fun K hK => ?_) (AllReadyH.cons rfl (fun K hK => ?_) AllReadyH.nil)
            · go_simp
              refine hK.out _ _ ?_ (fun hHeld => ?_)
              · exact sk_of _ HATD.out HXD.out
              clear hK K
              refine wpAnyH_ready (rs := [10]) (by as_aux_lemma => kernel_rfl) (by simp) ?_
              refine AllReadyH.cons rfl (fun K hK => ?_) AllReadyH.nil
              go_simp
              refine hK.out _ _ ?_ (fun hHeld => ?_)
              · exact sk_of _ (HATD.out.alloc _) (Blk.alloc HXD.out _)
              clear hK K
              refine wpAnyH_ready (rs := [11]) (by as_aux_lemma => kernel_rfl) (by simp) ?_
              refine AllReadyH.cons rfl (fun K hK => ?_) AllReadyH.nil
              refine step_append_rd _ rfl (.tmp 103) (.tmp 105) 53 rfl (w1.heap.size + 1 + 1) 59 j0 _ 7 112 Try.underlying53 hj hy0 hy1 hy2 rfl (by decide) _ _ _ rfl HO6.out _ (some ⟨wc.drew.heap.size, 0, none⟩) 1 1 [c0, c1, c2, c3, c4, c5, c6] rfl HN6.out HON.out (by simp only [maxLen]; omega) (by omega) (by simp; omega) ?_
              intro v9 w9 happ
              have ho9 := happ.own
              obtain ⟨A9, k9, rfl, _⟩ := own_form ho9
              clear ho9
              have HAT9 := Lib.hid ((HATD.out.alloc _).app HO6.out (by decide) (by decide) (by omega) happ)
              have HX9 := Lib.hid (show Blk w9 wa.heap.size 59 #[c0, c1, c2, c3, c4, c5, c6] from (happ.2.1.block _ (Blk.alloc HXD.out _).lt (fun e => HVW.out _ e.symm rfl)).trans (Blk.alloc HXD.out _))
              obtain ⟨hgrow, c9, f9⟩ := OpD.grow (by omega) PA1.out PA2.out PA3.out PA4.out G1.out G2.out G3.out G4.out HR6.out rfl happ
              have HGR := Lib.hid hgrow
              have hl9 := Nat.le_trans HATD.out.2.2.1.lt (Nat.le_trans (by simp) happ.2.1.size)
              have hwg2 : ¬ g = wa.heap.size := fun e => hwg e.symm
              clear happ hgrow
              refine hK.out _ _ ?_ (fun hHeld => ?_)
              · exact sk_of _ HAT9.out HX9.out
              clear hK K
              refine wpAnyH_take (i := 12) (v := ?_) rfl (by as_aux_lemma => kernel_rfl) (by as_aux_lemma => kernel_rfl) (by as_aux_lemma => kernel_rfl) (fun _ _ _ h => h) (Or.inl ⟨by rfl, ?_⟩) (by assumption) ?_
              rotate_left 1
              · intro w hSw
                (try dsimp only at hSw)
                go_simp
                try with_reducible rfl
              try simp only [Act.put]
              refine wpAnyH_take (i := 13) (v := ?_) rfl (by as_aux_lemma => kernel_rfl) (by as_aux_lemma => kernel_rfl) (by as_aux_lemma => kernel_rfl) (fun _ _ _ h => h) (Or.inl ⟨by rfl, ?_⟩) (by assumption) ?_
              rotate_left 1
              · intro w hSw
                (try dsimp only at hSw)
                go_simp
                try with_reducible rfl
              try simp only [Act.put]
              refine wpAnyH_ready (rs := [14]) (by as_aux_lemma => kernel_rfl) (by simp) ?_
              refine AllReadyH.cons rfl (fun K hK => ?_) AllReadyH.nil
              go_simp
              refine hK.out _ _ ?_ (fun hHeld => ?_)
              · exact sk_of _ (HAT9.out.set (by omega) (by omega)) (blk_set_ne HX9.out hwg)
              clear hK K
              refine wpAnyH_done (by as_aux_lemma => kernel_rfl) ?_ _
              go_wp2_with fail
              exact ⟨⟨k + 1, _, true, _, Af, nf, cf, hlt, by go_num, rfl, HUS3.out, HAT9.out.set (by omega) (by omega), by simp; omega, hlo, hset, .inr ⟨rfl, by simp, _, HGR.out⟩, by simp only [List.length_append, List.length_singleton]; omega, by dsimp only; omega⟩, by simp only [intOf]; omega⟩
            · go_simp
              refine hK.out _ _ ?_ (fun hHeld => ?_)
              · exact sk_of _ (HATD.out.alloc _) (Blk.alloc HXD.out _)
              clear hK K
              refine wpAnyH_ready (rs := [8]) (by as_aux_lemma => kernel_rfl) (by simp) ?_
              refine AllReadyH.cons rfl (fun K hK => ?_) AllReadyH.nil
              go_simp
              refine hK.out _ _ ?_ (fun hHeld => ?_)
              · exact sk_of _ (HATD.out.alloc _) (Blk.alloc HXD.out _)
              clear hK K
              refine wpAnyH_ready (rs := [11]) (by as_aux_lemma => kernel_rfl) (by simp) ?_
              refine AllReadyH.cons rfl (fun K hK => ?_) AllReadyH.nil
              refine step_append_rd _ rfl (.tmp 103) (.tmp 105) 53 rfl (w1.heap.size + 1 + 1) 59 j0 _ 7 112 Try.underlying53 hj hy0 hy1 hy2 rfl (by decide) _ _ _ rfl HO6.out _ (some ⟨wc.drew.heap.size, 0, none⟩) 1 1 [c0, c1, c2, c3, c4, c5, c6] rfl HN6.out HON.out (by simp only [maxLen]; omega) (by omega) (by simp; omega) ?_
              intro v9 w9 happ
              have ho9 := happ.own
              obtain ⟨A9, k9, rfl, _⟩ := own_form ho9
              clear ho9
              have HAT9 := Lib.hid ((HATD.out.alloc _).app HO6.out (by decide) (by decide) (by omega) happ)
              have HX9 := Lib.hid (show Blk w9 wa.heap.size 59 #[c0, c1, c2, c3, c4, c5, c6] from (happ.2.1.block _ (Blk.alloc HXD.out _).lt (fun e => HVW.out _ e.symm rfl)).trans (Blk.alloc HXD.out _))
              obtain ⟨hgrow, c9, f9⟩ := OpD.grow (by omega) PA1.out PA2.out PA3.out PA4.out G1.out G2.out G3.out G4.out HR6.out rfl happ
              have HGR := Lib.hid hgrow
              have hl9 := Nat.le_trans HATD.out.2.2.1.lt (Nat.le_trans (by simp) happ.2.1.size)
              have hwg2 : ¬ g = wa.heap.size := fun e => hwg e.symm
              clear happ hgrow
              refine hK.out _ _ ?_ (fun hHeld => ?_)
              · exact sk_of _ HAT9.out HX9.out
              clear hK K
              refine wpAnyH_take (i := 12) (v := ?_) rfl (by as_aux_lemma => kernel_rfl) (by as_aux_lemma => kernel_rfl) (by as_aux_lemma => kernel_rfl) (fun _ _ _ h => h) (Or.inl ⟨by rfl, ?_⟩) (by assumption) ?_
              rotate_left 1
              · intro w hSw
                (try dsimp only at hSw)
                go_simp
                try with_reducible rfl
              try simp only [Act.put]
              refine wpAnyH_take (i := 13) (v := ?_) rfl (by as_aux_lemma => kernel_rfl) (by as_aux_lemma => kernel_rfl) (by as_aux_lemma => kernel_rfl) (fun _ _ _ h => h) (Or.inl ⟨by rfl, ?_⟩) (by assumption) ?_
              rotate_left 1
              · intro w hSw
                (try dsimp only at hSw)
                go_simp
                try with_reducible rfl
              try simp only [Act.put]
              refine wpAnyH_ready (rs := [14]) (by as_aux_lemma => kernel_rfl) (by simp) ?_
              refine AllReadyH.cons rfl (fun K hK => ?_) AllReadyH.nil
              go_simp
              refine hK.out _ _ ?_ (fun hHeld => ?_)
              · exact sk_of _ (HAT9.out.set (by omega) (by omega)) (blk_set_ne HX9.out hwg)
              clear hK K
              refine wpAnyH_done (by as_aux_lemma => kernel_rfl) ?_ _
              go_wp2_with fail
              exact ⟨⟨k + 1, _, true, _, Af, nf, cf, hlt, by go_num, rfl, HUS3.out, HAT9.out.set (by omega) (by omega), by simp; omega, hlo, hset, .inr ⟨rfl, by simp, _, HGR.out⟩, by simp only [List.length_append, List.length_singleton]; omega, by dsimp only; omega⟩, by simp only [intOf]; omega⟩

end Go.Proofs.Ythcjiainpaebfaa
