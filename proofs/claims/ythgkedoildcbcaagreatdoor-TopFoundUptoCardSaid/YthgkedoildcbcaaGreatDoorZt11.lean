/- PartRule + SetNot + ConcatS + FileP + ItemOk + BareD + PartX + ResolveP + SameI -/
import Derived.Test.YthgkedoildcbcaaGreatDoorZt10
import Derived.Deep.QuietTactic
import Derived.BigQuiet
import Derived.Test.YthgkedoildcbcaaGreatDoorZt9
import Derived.BigRegion
import Derived.Lib.AppendZeros
import Derived.Lib.SliceRun
import Derived.Deep.Strs
import Derived.Lib.Strings
set_option maxHeartbeats 1600000
set_option maxRecDepth 100000
namespace Go.Proofs.YthgkedoildcbcaaGreatDoor
open Go.RowKit
theorem Gd (name:ByteArray) (left right:bY) (A:Option Addr) (n c:Nat) (L1 L2 L3 R1 R2 R3:Option Addr) (a1 a2 a3 x1 x2 x3 b1 b2 b3 y1 y2 y3:Nat) (w:World) (l1:bU w w.heap.size L1 a1 left.before) (l2:bU w w.heap.size L2 a2 left.source) (l3:bU w w.heap.size L3 a3 left.after) (Cw:a1≤maxLen) (yR:a2≤maxLen) (BG:a3≤maxLen) (r1:bU w w.heap.size R1 b1 right.before) (r2:bU w w.heap.size R2 b2 right.source) (r3:bU w w.heap.size R3 b3 right.after) (Co:b1≤maxLen) (yV:b2≤maxLen) (BW:b3≤maxLen) :
    Calls Tryz.prog 62 #[.agg #[.int .i64 2,.string name,.slice A n c,.int .i64 1,.bool left.start,.bool left.fin,.slice L1 a1 x1,.slice L2 a2 x2,.slice L3 a3 x3,.int .i64 left.aa,.bool right.start,.bool right.fin,.slice R1 b1 y1,.slice R2 b2 y2,.slice R3 b3 y3,.int .i64 right.aa]] w fun e w'=>e=.returned (.int .i64 (de 1 left right))∧Below w.heap.size w w':=by
 have SL:=qqh (fun w' (hb:Below w.heap.size w w') gz=>iu left gz L1 L2 L3 a1 a2 a3 x1 x2 x3 w' (aM l1 hb) (aM l2 hb) (aM l3 hb) Cw yR BG);have TL:=qqh (fun w' (hb:Below w.heap.size w w')=>iq left L1 L2 L3 a1 a2 a3 x1 x2 x3 w' (aM l2 hb) yR);have BL:=qqh (fun w' gz (h0:bT left gz=0)=>ic left L1 L2 L3 a1 a2 a3 x1 x2 x3 w' (kW.len l1) (kW.len l3) (by rw [← kW.len l1];exact(eo h0).1) (by rw [← kW.len l3];exact(eo h0).2.2));have SR:=qqh (fun w' (hb:Below w.heap.size w w') gz=>iu right gz R1 R2 R3 b1 b2 b3 y1 y2 y3 w' (aM r1 hb) (aM r2 hb) (aM r3 hb) Co yV BW);have TR:=qqh (fun w' (hb:Below w.heap.size w w')=>iq right R1 R2 R3 b1 b2 b3 y1 y2 y3 w' (aM r2 hb) yV);have BR:=qqh (fun w' gz (h0:bT right gz=0)=>ic right R1 R2 R3 b1 b2 b3 y1 y2 y3 w' (kW.len r1) (kW.len r3) (by rw [← kW.len r1];exact(eo h0).1) (by rw [← kW.len r3];exact(eo h0).2.2));clear l1 l2 l3 r1 r2 r3 Cw yR BG Co yV BW;have dO:=qqh ((Below.refl w.heap.size w).alloc (Nat.le_refl _) (.cells #[.int .i64 2,.string name,.slice A n c,.int .i64 1,.bool left.start,.bool left.fin,.slice L1 a1 x1,.slice L2 a2 x2,.slice L3 a3 x3,.int .i64 left.aa,.bool right.start,.bool right.fin,.slice R1 b1 y1,.slice R2 b2 y2,.slice R3 b3 y3,.int .i64 right.aa] 97));have ja:=qqh (ai.new w 97 #[.int .i64 2,.string name,.slice A n c,.int .i64 1,.bool left.start,.bool left.fin,.slice L1 a1 x1,.slice L2 a2 x2,.slice L3 a3 x3,.int .i64 left.aa,.bool right.start,.bool right.fin,.slice R1 b1 y1,.slice R2 b2 y2,.slice R3 b3 y3,.int .i64 right.aa]);go_enter Tryz.func62,Tryz.ntmps62;go_wp2_with fail
 generalize w.alloc (.cells #[.int .i64 2,.string name,.slice A n c,.int .i64 1,.bool left.start,.bool left.fin,.slice L1 a1 x1,.slice L2 a2 x2,.slice L3 a3 x3,.int .i64 left.aa,.bool right.start,.bool right.fin,.slice R1 b1 y1,.slice R2 b2 y2,.slice R3 b3 y3,.int .i64 right.aa] 97)=W0 at *;have c0:W0.cell? ⟨w.heap.size,0,none⟩=some (.int .i64 2):=ja.out.cell 0;have c3:W0.cell? ⟨w.heap.size,3,none⟩=some (.int .i64 1):=ja.out.cell 3;have c4:W0.cell? ⟨w.heap.size,4,none⟩=some (.bool left.start):=ja.out.cell 4;have c5:W0.cell? ⟨w.heap.size,5,none⟩=some (.bool left.fin):=ja.out.cell 5;have c6:W0.cell? ⟨w.heap.size,6,none⟩=some (.slice L1 a1 x1):=ja.out.cell 6;have c7:W0.cell? ⟨w.heap.size,7,none⟩=some (.slice L2 a2 x2):=ja.out.cell 7;have c8:W0.cell? ⟨w.heap.size,8,none⟩=some (.slice L3 a3 x3):=ja.out.cell 8;have c9:W0.cell? ⟨w.heap.size,9,none⟩=some (.int .i64 left.aa):=ja.out.cell 9;have c10:W0.cell? ⟨w.heap.size,10,none⟩=some (.bool right.start):=ja.out.cell 10;have c11:W0.cell? ⟨w.heap.size,11,none⟩=some (.bool right.fin):=ja.out.cell 11;have c12:W0.cell? ⟨w.heap.size,12,none⟩=some (.slice R1 b1 y1):=ja.out.cell 12;have c13:W0.cell? ⟨w.heap.size,13,none⟩=some (.slice R2 b2 y2):=ja.out.cell 13;have c14:W0.cell? ⟨w.heap.size,14,none⟩=some (.slice R3 b3 y3):=ja.out.cell 14;have c15:W0.cell? ⟨w.heap.size,15,none⟩=some (.int .i64 right.aa):=ja.out.cell 15;go_quiet (fail);go_wp2_with fail;refine(SL.out _ (below_drewN dO.out _) true).mono ?_;rintro e w1 ⟨rfl,hb⟩;have sr:=qqh (dO.out.trans (Below.trans (below_drewN (Below.refl _ _) _) (hb.mono (by exact Nat.le_refl _)) |>.mono dO.out.size));have jL:=qqh (ai.below (ai.drewN ja.out _) hb ja.out.lt);clear hb;have d10:w1.cell? ⟨w.heap.size,10,none⟩=some (.bool right.start):=jL.out.cell 10
 have d11:w1.cell? ⟨w.heap.size,11,none⟩=some (.bool right.fin):=jL.out.cell 11;have d12:w1.cell? ⟨w.heap.size,12,none⟩=some (.slice R1 b1 y1):=jL.out.cell 12;have d13:w1.cell? ⟨w.heap.size,13,none⟩=some (.slice R2 b2 y2):=jL.out.cell 13;have d14:w1.cell? ⟨w.heap.size,14,none⟩=some (.slice R3 b3 y3):=jL.out.cell 14;have d15:w1.cell? ⟨w.heap.size,15,none⟩=some (.int .i64 right.aa):=jL.out.cell 15;by_cases e1:bT left true=0
 ·have WV:(bT left true != 0)=false:=(by simp [e1]);go_wp2_with fail;refine(SR.out w1 sr.out false).mono ?_;rintro e w2 ⟨rfl,hb⟩;have jI:=qqh (ai.below jL.out hb jL.out.lt);have sQ:=qqh (sr.out.trans (hb.mono sr.out.size));clear hb;have d10:w2.cell? ⟨w.heap.size,10,none⟩=some (.bool right.start):=jI.out.cell 10;have d11:w2.cell? ⟨w.heap.size,11,none⟩=some (.bool right.fin):=jI.out.cell 11;have d12:w2.cell? ⟨w.heap.size,12,none⟩=some (.slice R1 b1 y1):=jI.out.cell 12;have d13:w2.cell? ⟨w.heap.size,13,none⟩=some (.slice R2 b2 y2):=jI.out.cell 13;have d14:w2.cell? ⟨w.heap.size,14,none⟩=some (.slice R3 b3 y3):=jI.out.cell 14;have d15:w2.cell? ⟨w.heap.size,15,none⟩=some (.int .i64 right.aa):=jI.out.cell 15;by_cases e2:bT right false=0
  ·have Ud:(bT right false != 0)=false:=(by simp [e2]);go_wp2_with fail;refine(TR.out w2 sQ.out).mono ?_;rintro e w3 ⟨rfl,hb⟩;have j4:=qqh (ai.below jI.out hb jI.out.lt);have vD:=qqh (sQ.out.trans (hb.mono sQ.out.size));clear hb;have d10:w3.cell? ⟨w.heap.size,10,none⟩=some (.bool right.start):=j4.out.cell 10;have d11:w3.cell? ⟨w.heap.size,11,none⟩=some (.bool right.fin):=j4.out.cell 11;have d12:w3.cell? ⟨w.heap.size,12,none⟩=some (.slice R1 b1 y1):=j4.out.cell 12;have d13:w3.cell? ⟨w.heap.size,13,none⟩=some (.slice R2 b2 y2):=j4.out.cell 13;have d14:w3.cell? ⟨w.heap.size,14,none⟩=some (.slice R3 b3 y3):=j4.out.cell 14;have d15:w3.cell? ⟨w.heap.size,15,none⟩=some (.int .i64 right.aa):=j4.out.cell 15;cases hp:gS right.source
   ·have HV:=qqh (show de 1 left right=8 by simp [de,vO,e1,e2,hp]);clear e1 e2 hp;go_wp2_with fail;go_ret;rw [HV.out];exact⟨rfl,vD.out⟩
   go_wp2_with fail;refine(BR.out w3 false e2).mono ?_;rintro e w4 ⟨rfl,hb⟩;have OB:=qqh (ai.below j4.out hb j4.out.lt);have zy:=qqh (vD.out.trans (hb.mono vD.out.size));clear hb;have d9:w4.cell? ⟨w.heap.size,9,none⟩=some (.int .i64 left.aa):=OB.out.cell 9;cases ha:nE right
   ·by_cases Gv:left.aa<0
    ·have HV:=qqh (show de 1 left right=0 by simp [de,vO,e1,e2,hp,ha,Gv]);clear e1 e2 hp ha;go_wp2_with fail;go_ret;rw [HV.out];exact⟨rfl,zy.out⟩
    have HV:=qqh (show de 1 left right=8 by simp [de,vO,e1,e2,hp,ha,Gv]);clear e1 e2 hp ha;go_wp2_with fail;go_ret;rw [HV.out];exact⟨rfl,zy.out⟩
   have HV:=qqh (show de 1 left right=8 by simp [de,vO,e1,e2,hp,ha]);clear e1 e2 hp ha;go_wp2_with fail;go_ret;rw [HV.out];exact⟨rfl,zy.out⟩
  have Ud:(bT right false != 0)=true:=(by simpa using e2);have HV:=qqh (show de 1 left right=bT right false by simp [de,e1,e2]);clear e1 e2;go_wp2_with fail;go_ret;rw [HV.out];exact⟨rfl,sQ.out⟩
 have WV:(bT left true != 0)=true:=(by simpa using e1);have HV:=qqh (show de 1 left right=bT left true by simp [de,e1]);clear e1;go_wp2_with fail;go_ret;rw [HV.out];exact⟨rfl,sr.out⟩
theorem Gi (name:ByteArray) (left right:bY) (A:Option Addr) (n c:Nat) (L1 L2 L3 R1 R2 R3:Option Addr) (a1 a2 a3 x1 x2 x3 b1 b2 b3 y1 y2 y3:Nat) (w:World) (l1:bU w w.heap.size L1 a1 left.before) (l2:bU w w.heap.size L2 a2 left.source) (l3:bU w w.heap.size L3 a3 left.after) (Cw:a1≤maxLen) (yR:a2≤maxLen) (BG:a3≤maxLen) (r1:bU w w.heap.size R1 b1 right.before) (r2:bU w w.heap.size R2 b2 right.source) (r3:bU w w.heap.size R3 b3 right.after) (Co:b1≤maxLen) (yV:b2≤maxLen) (BW:b3≤maxLen) :
    Calls Tryz.prog 62 #[.agg #[.int .i64 2,.string name,.slice A n c,.int .i64 2,.bool left.start,.bool left.fin,.slice L1 a1 x1,.slice L2 a2 x2,.slice L3 a3 x3,.int .i64 left.aa,.bool right.start,.bool right.fin,.slice R1 b1 y1,.slice R2 b2 y2,.slice R3 b3 y3,.int .i64 right.aa]] w fun e w'=>e=.returned (.int .i64 (de 2 left right))∧Below w.heap.size w w':=by
 have SL:=qqh (fun w' (hb:Below w.heap.size w w') gz=>iu left gz L1 L2 L3 a1 a2 a3 x1 x2 x3 w' (aM l1 hb) (aM l2 hb) (aM l3 hb) Cw yR BG);have TL:=qqh (fun w' (hb:Below w.heap.size w w')=>iq left L1 L2 L3 a1 a2 a3 x1 x2 x3 w' (aM l2 hb) yR);have BL:=qqh (fun w' gz (h0:bT left gz=0)=>ic left L1 L2 L3 a1 a2 a3 x1 x2 x3 w' (kW.len l1) (kW.len l3) (by rw [← kW.len l1];exact(eo h0).1) (by rw [← kW.len l3];exact(eo h0).2.2));have SR:=qqh (fun w' (hb:Below w.heap.size w w') gz=>iu right gz R1 R2 R3 b1 b2 b3 y1 y2 y3 w' (aM r1 hb) (aM r2 hb) (aM r3 hb) Co yV BW);have TR:=qqh (fun w' (hb:Below w.heap.size w w')=>iq right R1 R2 R3 b1 b2 b3 y1 y2 y3 w' (aM r2 hb) yV);have BR:=qqh (fun w' gz (h0:bT right gz=0)=>ic right R1 R2 R3 b1 b2 b3 y1 y2 y3 w' (kW.len r1) (kW.len r3) (by rw [← kW.len r1];exact(eo h0).1) (by rw [← kW.len r3];exact(eo h0).2.2));clear l1 l2 l3 r1 r2 r3 Cw yR BG Co yV BW;have dO:=qqh ((Below.refl w.heap.size w).alloc (Nat.le_refl _) (.cells #[.int .i64 2,.string name,.slice A n c,.int .i64 2,.bool left.start,.bool left.fin,.slice L1 a1 x1,.slice L2 a2 x2,.slice L3 a3 x3,.int .i64 left.aa,.bool right.start,.bool right.fin,.slice R1 b1 y1,.slice R2 b2 y2,.slice R3 b3 y3,.int .i64 right.aa] 97));have ja:=qqh (ai.new w 97 #[.int .i64 2,.string name,.slice A n c,.int .i64 2,.bool left.start,.bool left.fin,.slice L1 a1 x1,.slice L2 a2 x2,.slice L3 a3 x3,.int .i64 left.aa,.bool right.start,.bool right.fin,.slice R1 b1 y1,.slice R2 b2 y2,.slice R3 b3 y3,.int .i64 right.aa]);go_enter Tryz.func62,Tryz.ntmps62;go_wp2_with fail
 generalize w.alloc (.cells #[.int .i64 2,.string name,.slice A n c,.int .i64 2,.bool left.start,.bool left.fin,.slice L1 a1 x1,.slice L2 a2 x2,.slice L3 a3 x3,.int .i64 left.aa,.bool right.start,.bool right.fin,.slice R1 b1 y1,.slice R2 b2 y2,.slice R3 b3 y3,.int .i64 right.aa] 97)=W0 at *;have c0:W0.cell? ⟨w.heap.size,0,none⟩=some (.int .i64 2):=ja.out.cell 0;have c3:W0.cell? ⟨w.heap.size,3,none⟩=some (.int .i64 2):=ja.out.cell 3;have c4:W0.cell? ⟨w.heap.size,4,none⟩=some (.bool left.start):=ja.out.cell 4;have c5:W0.cell? ⟨w.heap.size,5,none⟩=some (.bool left.fin):=ja.out.cell 5;have c6:W0.cell? ⟨w.heap.size,6,none⟩=some (.slice L1 a1 x1):=ja.out.cell 6;have c7:W0.cell? ⟨w.heap.size,7,none⟩=some (.slice L2 a2 x2):=ja.out.cell 7;have c8:W0.cell? ⟨w.heap.size,8,none⟩=some (.slice L3 a3 x3):=ja.out.cell 8;have c9:W0.cell? ⟨w.heap.size,9,none⟩=some (.int .i64 left.aa):=ja.out.cell 9;have c10:W0.cell? ⟨w.heap.size,10,none⟩=some (.bool right.start):=ja.out.cell 10;have c11:W0.cell? ⟨w.heap.size,11,none⟩=some (.bool right.fin):=ja.out.cell 11;have c12:W0.cell? ⟨w.heap.size,12,none⟩=some (.slice R1 b1 y1):=ja.out.cell 12;have c13:W0.cell? ⟨w.heap.size,13,none⟩=some (.slice R2 b2 y2):=ja.out.cell 13;have c14:W0.cell? ⟨w.heap.size,14,none⟩=some (.slice R3 b3 y3):=ja.out.cell 14;have c15:W0.cell? ⟨w.heap.size,15,none⟩=some (.int .i64 right.aa):=ja.out.cell 15;go_quiet (fail);go_wp2_with fail;refine(SL.out _ (below_drewN dO.out _) false).mono ?_;rintro e w1 ⟨rfl,hb⟩;have sr:=qqh (dO.out.trans (Below.trans (below_drewN (Below.refl _ _) _) (hb.mono (by exact Nat.le_refl _)) |>.mono dO.out.size));have jL:=qqh (ai.below (ai.drewN ja.out _) hb ja.out.lt);clear hb;have d10:w1.cell? ⟨w.heap.size,10,none⟩=some (.bool right.start):=jL.out.cell 10
 have d11:w1.cell? ⟨w.heap.size,11,none⟩=some (.bool right.fin):=jL.out.cell 11;have d12:w1.cell? ⟨w.heap.size,12,none⟩=some (.slice R1 b1 y1):=jL.out.cell 12;have d13:w1.cell? ⟨w.heap.size,13,none⟩=some (.slice R2 b2 y2):=jL.out.cell 13;have d14:w1.cell? ⟨w.heap.size,14,none⟩=some (.slice R3 b3 y3):=jL.out.cell 14;have d15:w1.cell? ⟨w.heap.size,15,none⟩=some (.int .i64 right.aa):=jL.out.cell 15;by_cases e1:bT left false=0
 ·have WV:(bT left false != 0)=false:=(by simp [e1]);go_wp2_with fail;refine(SR.out w1 sr.out true).mono ?_;rintro e w2 ⟨rfl,hb⟩;have jI:=qqh (ai.below jL.out hb jL.out.lt);have sQ:=qqh (sr.out.trans (hb.mono sr.out.size));clear hb;have d4:w2.cell? ⟨w.heap.size,4,none⟩=some (.bool left.start):=jI.out.cell 4;have d5:w2.cell? ⟨w.heap.size,5,none⟩=some (.bool left.fin):=jI.out.cell 5;have d6:w2.cell? ⟨w.heap.size,6,none⟩=some (.slice L1 a1 x1):=jI.out.cell 6;have d7:w2.cell? ⟨w.heap.size,7,none⟩=some (.slice L2 a2 x2):=jI.out.cell 7;have d8:w2.cell? ⟨w.heap.size,8,none⟩=some (.slice L3 a3 x3):=jI.out.cell 8;have d9:w2.cell? ⟨w.heap.size,9,none⟩=some (.int .i64 left.aa):=jI.out.cell 9;by_cases e2:bT right true=0
  ·have Ud:(bT right true != 0)=false:=(by simp [e2]);go_wp2_with fail;refine(TL.out w2 sQ.out).mono ?_;rintro e w3 ⟨rfl,hb⟩;have j4:=qqh (ai.below jI.out hb jI.out.lt);have vD:=qqh (sQ.out.trans (hb.mono sQ.out.size));clear hb;have d4:w3.cell? ⟨w.heap.size,4,none⟩=some (.bool left.start):=j4.out.cell 4;have d5:w3.cell? ⟨w.heap.size,5,none⟩=some (.bool left.fin):=j4.out.cell 5;have d6:w3.cell? ⟨w.heap.size,6,none⟩=some (.slice L1 a1 x1):=j4.out.cell 6;have d7:w3.cell? ⟨w.heap.size,7,none⟩=some (.slice L2 a2 x2):=j4.out.cell 7;have d8:w3.cell? ⟨w.heap.size,8,none⟩=some (.slice L3 a3 x3):=j4.out.cell 8;have d9:w3.cell? ⟨w.heap.size,9,none⟩=some (.int .i64 left.aa):=j4.out.cell 9;cases hp:gS left.source
   ·have HV:=qqh (show de 2 left right=8 by simp [de,vO,e1,e2,hp]);clear e1 e2 hp;go_wp2_with fail;go_ret;rw [HV.out];exact⟨rfl,vD.out⟩
   go_wp2_with fail;refine(BL.out w3 false e1).mono ?_;rintro e w4 ⟨rfl,hb⟩;have OB:=qqh (ai.below j4.out hb j4.out.lt);have zy:=qqh (vD.out.trans (hb.mono vD.out.size));clear hb;have d15:w4.cell? ⟨w.heap.size,15,none⟩=some (.int .i64 right.aa):=OB.out.cell 15;cases ha:nE left
   ·by_cases Gv:right.aa<0
    ·have HV:=qqh (show de 2 left right=0 by simp [de,vO,e1,e2,hp,ha,Gv]);clear e1 e2 hp ha;go_wp2_with fail;go_ret;rw [HV.out];exact⟨rfl,zy.out⟩
    have HV:=qqh (show de 2 left right=8 by simp [de,vO,e1,e2,hp,ha,Gv]);clear e1 e2 hp ha;go_wp2_with fail;go_ret;rw [HV.out];exact⟨rfl,zy.out⟩
   have HV:=qqh (show de 2 left right=8 by simp [de,vO,e1,e2,hp,ha]);clear e1 e2 hp ha;go_wp2_with fail;go_ret;rw [HV.out];exact⟨rfl,zy.out⟩
  have Ud:(bT right true != 0)=true:=(by simpa using e2);have HV:=qqh (show de 2 left right=bT right true by simp [de,e1,e2]);clear e1 e2;go_wp2_with fail;go_ret;rw [HV.out];exact⟨rfl,sQ.out⟩
 have WV:(bT left false != 0)=true:=(by simpa using e1);have HV:=qqh (show de 2 left right=bT left false by simp [de,e1]);clear e1;go_wp2_with fail;go_ret;rw [HV.out];exact⟨rfl,sr.out⟩
theorem Fb (name:ByteArray) (left right:bY) (A:Option Addr) (n c:Nat) (L1 L2 L3 R1 R2 R3:Option Addr) (a1 a2 a3 x1 x2 x3 b1 b2 b3 y1 y2 y3:Nat) (w:World) (l1:bU w w.heap.size L1 a1 left.before) (l2:bU w w.heap.size L2 a2 left.source) (l3:bU w w.heap.size L3 a3 left.after) (Cw:a1≤maxLen) (yR:a2≤maxLen) (BG:a3≤maxLen) (r1:bU w w.heap.size R1 b1 right.before) (r2:bU w w.heap.size R2 b2 right.source) (r3:bU w w.heap.size R3 b3 right.after) (Co:b1≤maxLen) (yV:b2≤maxLen) (BW:b3≤maxLen) :
    Calls Tryz.prog 62 #[.agg #[.int .i64 2,.string name,.slice A n c,.int .i64 3,.bool left.start,.bool left.fin,.slice L1 a1 x1,.slice L2 a2 x2,.slice L3 a3 x3,.int .i64 left.aa,.bool right.start,.bool right.fin,.slice R1 b1 y1,.slice R2 b2 y2,.slice R3 b3 y3,.int .i64 right.aa]] w fun e w'=>e=.returned (.int .i64 (de 3 left right))∧Below w.heap.size w w':=by
 have SL:=qqh (fun w' (hb:Below w.heap.size w w') gz=>iu left gz L1 L2 L3 a1 a2 a3 x1 x2 x3 w' (aM l1 hb) (aM l2 hb) (aM l3 hb) Cw yR BG);have TL:=qqh (fun w' (hb:Below w.heap.size w w')=>iq left L1 L2 L3 a1 a2 a3 x1 x2 x3 w' (aM l2 hb) yR);have BL:=qqh (fun w' gz (h0:bT left gz=0)=>ic left L1 L2 L3 a1 a2 a3 x1 x2 x3 w' (kW.len l1) (kW.len l3) (by rw [← kW.len l1];exact(eo h0).1) (by rw [← kW.len l3];exact(eo h0).2.2));have SR:=qqh (fun w' (hb:Below w.heap.size w w') gz=>iu right gz R1 R2 R3 b1 b2 b3 y1 y2 y3 w' (aM r1 hb) (aM r2 hb) (aM r3 hb) Co yV BW);have TR:=qqh (fun w' (hb:Below w.heap.size w w')=>iq right R1 R2 R3 b1 b2 b3 y1 y2 y3 w' (aM r2 hb) yV);have BR:=qqh (fun w' gz (h0:bT right gz=0)=>ic right R1 R2 R3 b1 b2 b3 y1 y2 y3 w' (kW.len r1) (kW.len r3) (by rw [← kW.len r1];exact(eo h0).1) (by rw [← kW.len r3];exact(eo h0).2.2));clear l1 l2 l3 r1 r2 r3 Cw yR BG Co yV BW;have dO:=qqh ((Below.refl w.heap.size w).alloc (Nat.le_refl _) (.cells #[.int .i64 2,.string name,.slice A n c,.int .i64 3,.bool left.start,.bool left.fin,.slice L1 a1 x1,.slice L2 a2 x2,.slice L3 a3 x3,.int .i64 left.aa,.bool right.start,.bool right.fin,.slice R1 b1 y1,.slice R2 b2 y2,.slice R3 b3 y3,.int .i64 right.aa] 97));have ja:=qqh (ai.new w 97 #[.int .i64 2,.string name,.slice A n c,.int .i64 3,.bool left.start,.bool left.fin,.slice L1 a1 x1,.slice L2 a2 x2,.slice L3 a3 x3,.int .i64 left.aa,.bool right.start,.bool right.fin,.slice R1 b1 y1,.slice R2 b2 y2,.slice R3 b3 y3,.int .i64 right.aa]);go_enter Tryz.func62,Tryz.ntmps62;go_wp2_with fail
 generalize w.alloc (.cells #[.int .i64 2,.string name,.slice A n c,.int .i64 3,.bool left.start,.bool left.fin,.slice L1 a1 x1,.slice L2 a2 x2,.slice L3 a3 x3,.int .i64 left.aa,.bool right.start,.bool right.fin,.slice R1 b1 y1,.slice R2 b2 y2,.slice R3 b3 y3,.int .i64 right.aa] 97)=W0 at *;have c0:W0.cell? ⟨w.heap.size,0,none⟩=some (.int .i64 2):=ja.out.cell 0;have c3:W0.cell? ⟨w.heap.size,3,none⟩=some (.int .i64 3):=ja.out.cell 3;have c4:W0.cell? ⟨w.heap.size,4,none⟩=some (.bool left.start):=ja.out.cell 4;have c5:W0.cell? ⟨w.heap.size,5,none⟩=some (.bool left.fin):=ja.out.cell 5;have c6:W0.cell? ⟨w.heap.size,6,none⟩=some (.slice L1 a1 x1):=ja.out.cell 6;have c7:W0.cell? ⟨w.heap.size,7,none⟩=some (.slice L2 a2 x2):=ja.out.cell 7;have c8:W0.cell? ⟨w.heap.size,8,none⟩=some (.slice L3 a3 x3):=ja.out.cell 8;have c9:W0.cell? ⟨w.heap.size,9,none⟩=some (.int .i64 left.aa):=ja.out.cell 9;have c10:W0.cell? ⟨w.heap.size,10,none⟩=some (.bool right.start):=ja.out.cell 10;have c11:W0.cell? ⟨w.heap.size,11,none⟩=some (.bool right.fin):=ja.out.cell 11;have c12:W0.cell? ⟨w.heap.size,12,none⟩=some (.slice R1 b1 y1):=ja.out.cell 12;have c13:W0.cell? ⟨w.heap.size,13,none⟩=some (.slice R2 b2 y2):=ja.out.cell 13;have c14:W0.cell? ⟨w.heap.size,14,none⟩=some (.slice R3 b3 y3):=ja.out.cell 14;have c15:W0.cell? ⟨w.heap.size,15,none⟩=some (.int .i64 right.aa):=ja.out.cell 15;go_quiet (fail);go_wp2_with fail;refine(SL.out _ (below_drewN dO.out _) true).mono ?_;rintro e w1 ⟨rfl,hb⟩;have sr:=qqh (dO.out.trans (Below.trans (below_drewN (Below.refl _ _) _) (hb.mono (by exact Nat.le_refl _)) |>.mono dO.out.size));have jL:=qqh (ai.below (ai.drewN ja.out _) hb ja.out.lt);clear hb;have d10:w1.cell? ⟨w.heap.size,10,none⟩=some (.bool right.start):=jL.out.cell 10
 have d11:w1.cell? ⟨w.heap.size,11,none⟩=some (.bool right.fin):=jL.out.cell 11;have d12:w1.cell? ⟨w.heap.size,12,none⟩=some (.slice R1 b1 y1):=jL.out.cell 12;have d13:w1.cell? ⟨w.heap.size,13,none⟩=some (.slice R2 b2 y2):=jL.out.cell 13;have d14:w1.cell? ⟨w.heap.size,14,none⟩=some (.slice R3 b3 y3):=jL.out.cell 14;have d15:w1.cell? ⟨w.heap.size,15,none⟩=some (.int .i64 right.aa):=jL.out.cell 15;by_cases e1:bT left true=0
 ·have WV:(bT left true != 0)=false:=(by simp [e1]);go_wp2_with fail;refine(SR.out w1 sr.out true).mono ?_;rintro e w2 ⟨rfl,hb⟩;have jI:=qqh (ai.below jL.out hb jL.out.lt);have sQ:=qqh (sr.out.trans (hb.mono sr.out.size));clear hb;have d10:w2.cell? ⟨w.heap.size,10,none⟩=some (.bool right.start):=jI.out.cell 10;have d11:w2.cell? ⟨w.heap.size,11,none⟩=some (.bool right.fin):=jI.out.cell 11;have d12:w2.cell? ⟨w.heap.size,12,none⟩=some (.slice R1 b1 y1):=jI.out.cell 12;have d13:w2.cell? ⟨w.heap.size,13,none⟩=some (.slice R2 b2 y2):=jI.out.cell 13;have d14:w2.cell? ⟨w.heap.size,14,none⟩=some (.slice R3 b3 y3):=jI.out.cell 14;have d15:w2.cell? ⟨w.heap.size,15,none⟩=some (.int .i64 right.aa):=jI.out.cell 15;by_cases e2:bT right true=0
  ·have Ud:(bT right true != 0)=false:=(by simp [e2]);go_wp2_with fail;refine(TR.out w2 sQ.out).mono ?_;rintro e w3 ⟨rfl,hb⟩;have j4:=qqh (ai.below jI.out hb jI.out.lt);have vD:=qqh (sQ.out.trans (hb.mono sQ.out.size));clear hb;have d4:w3.cell? ⟨w.heap.size,4,none⟩=some (.bool left.start):=j4.out.cell 4;have d5:w3.cell? ⟨w.heap.size,5,none⟩=some (.bool left.fin):=j4.out.cell 5;have d6:w3.cell? ⟨w.heap.size,6,none⟩=some (.slice L1 a1 x1):=j4.out.cell 6;have d7:w3.cell? ⟨w.heap.size,7,none⟩=some (.slice L2 a2 x2):=j4.out.cell 7;have d8:w3.cell? ⟨w.heap.size,8,none⟩=some (.slice L3 a3 x3):=j4.out.cell 8;have d9:w3.cell? ⟨w.heap.size,9,none⟩=some (.int .i64 left.aa):=j4.out.cell 9;cases hp:gS right.source
   ·have HV:=qqh (show de 3 left right=8 by simp [de,vO,e1,e2,hp]);clear e1 e2 hp;go_wp2_with fail;go_ret;rw [HV.out];exact⟨rfl,vD.out⟩
   go_wp2_with fail;refine(TL.out w3 vD.out).mono ?_;rintro e w4 ⟨rfl,hb⟩;have OB:=qqh (ai.below j4.out hb j4.out.lt);have zy:=qqh (vD.out.trans (hb.mono vD.out.size));clear hb;cases hq:gS left.source
   ·have HV:=qqh (show de 3 left right=8 by simp [de,vO,e1,e2,hp,hq]);clear e1 e2 hp hq;go_wp2_with fail;go_ret;rw [HV.out];exact⟨rfl,zy.out⟩
   have HV:=qqh (show de 3 left right=0 by simp [de,vO,e1,e2,hp,hq]);clear e1 e2 hp hq;go_wp2_with fail;go_ret;rw [HV.out];exact⟨rfl,zy.out⟩
  have Ud:(bT right true != 0)=true:=(by simpa using e2);have HV:=qqh (show de 3 left right=bT right true by simp [de,e1,e2]);clear e1 e2;go_wp2_with fail;go_ret;rw [HV.out];exact⟨rfl,sQ.out⟩
 have WV:(bT left true != 0)=true:=(by simpa using e1);have HV:=qqh (show de 3 left right=bT left true by simp [de,e1]);clear e1;go_wp2_with fail;go_ret;rw [HV.out];exact⟨rfl,sr.out⟩
theorem MM (name:ByteArray) (left right:bY) (dir:Int) (A:Option Addr) (n c:Nat) (L1 L2 L3 R1 R2 R3:Option Addr) (a1 a2 a3 x1 x2 x3 b1 b2 b3 y1 y2 y3:Nat) (w:World) (h:dir<1∨3<dir) :
    Calls Tryz.prog 62 #[.agg #[.int .i64 2,.string name,.slice A n c,.int .i64 dir,.bool left.start,.bool left.fin,.slice L1 a1 x1,.slice L2 a2 x2,.slice L3 a3 x3,.int .i64 left.aa,.bool right.start,.bool right.fin,.slice R1 b1 y1,.slice R2 b2 y2,.slice R3 b3 y3,.int .i64 right.aa]] w fun e w'=>e=.returned (.int .i64 1)∧Below w.heap.size w w':=by
 have HB:=qqh ((Below.refl w.heap.size w).alloc (Nat.le_refl _) (.cells #[.int .i64 2,.string name,.slice A n c,.int .i64 dir,.bool left.start,.bool left.fin,.slice L1 a1 x1,.slice L2 a2 x2,.slice L3 a3 x3,.int .i64 left.aa,.bool right.start,.bool right.fin,.slice R1 b1 y1,.slice R2 b2 y2,.slice R3 b3 y3,.int .i64 right.aa] 97));rcases h with h | h
 all_goals
   go_enter Tryz.func62,Tryz.ntmps62
   go_wp2_with fail
   go_ret
   exact⟨rfl,HB.out⟩
def UJ (w:World) (n:Nat) (i:Value) (wr:World):Prop:=∃ j:Nat,j≤n∧i=.int .i64 j∧Below w.heap.size w wr
theorem xq (X:Nat→Prop) (L:List ag) (A:Option Addr) (n c:Nat) (w:World) (hn:n≤1000) (hS:∀ s∈L,aH s) (hL:aZ (mF w X) w X 1 A n L) :
    Calls Tryz.prog 50 #[.slice A n c] w fun e w'=>e=.returned (.int .i64 0)∧Below w.heap.size w w':=by
 have aV:=qqh (show L.length=n from hL.len);have HL:=qqh hL;have HS:=qqh hS;clear hL hS;go_enter Tryz.func50,Tryz.ntmps50;go_wp2_with fail;go_loopw [8] (UJ w n) (fun i _=>n - (intOf i).toNat);(case atStart=>exact⟨0,Nat.zero_le _,rfl,Below.refl _ _⟩);obtain⟨j,hj,rfl,hb⟩:=hrel;by_cases hlt:j<n
 ·obtain⟨s,hs⟩:∃ z,L[j]? = some z:=⟨_,List.getElem?_eq_getElem (by rw [aV.out];exact hlt)⟩;obtain⟨b,off,A',n',c',rfl,_,dL,UA,hrd,_,hnn⟩:=vY HL.out hs;have rX:=(hb.cell (p:=⟨b,off+j,none⟩) dL).trans UA;simp only [maxLen]at hnn;have HW:=qqh (show Calls Tryz.prog 70 #[.slice A' n' c'] wr fun e w'=>e=.returned (.int .i64 0)∧Below wr.heap.size wr w' by
   have:=jA A' n' c' s wr (by omega) ((Rd.below hrd hb).more hb.size);rwa [jP (HS.out s (List.mem_of_getElem? hs))]at this)
  have HB:=qqh hb;clear hs hrd hb UA;go_wp2_with fail;refine HW.out.mono ?_;rintro e w1 ⟨rfl,aW⟩;have b7:=qqh (HB.out.trans (aW.mono HB.out.size));go_wp2_with fail;exact⟨⟨j+1,by omega,by go_num,b7.out⟩,by simp [intOf];omega⟩
 obtain rfl:j=n:=(by omega);go_wp2_with fail;go_ret;exact⟨rfl,hb⟩
theorem oS (A:Option Addr) (n c:Nat) (w:World) :
    Calls Tryz.prog 108 #[.slice A n c] w fun e w'=>e=.returned (if 200<n then .tuple #[.slice none 0 0,.int .i64 5]else .tuple #[.slice A n c,.int .i64 0])∧w'=w:=by
 by_cases h:200<n
 ·rw [if_pos h];go_enter Tryz.func108,Tryz.ntmps108;go_wp2_with fail;go_ret2;exact⟨rfl,rfl⟩
 rw [if_neg h];go_enter Tryz.func108,Tryz.ntmps108;go_wp2_with fail;go_ret2;exact⟨rfl,rfl⟩
def dF (w:World) (s:ag) (m:Nat) (e:Ending) (w':World):Prop:=∃ A' n' c',e=.returned (.slice A' n' c')∧bW w' (fun b=>w.heap.size≤b) 2 A' n' (an s)∧n'≤m∧n'≤c'∧Below w.heap.size w w'
def Vl (w:World) (s:ag) (n:Nat) (out a i:Value) (wr:World):Prop :=
  ∃ (j k:Nat) (x:Int) (acc:ag),j≤n∧i=.int .i64 j∧a=.int .i32 x∧0≤x∧x≤1114112∧k≤j∧wr.ownsRow w.heap.size 77 2 out k (an acc)∧acc.length=k∧wW s=acc++ny x (s.drop j)∧Below w.heap.size w wr
theorem CC (A:Option Addr) (n c:Nat) (s:ag) (w:World) (hn:n≤200) (hs:aH s) (hl:nD w w.heap.size A n s) :
    Calls Tryz.prog 110 #[.slice A n c] w (dF w (wW s) 201):=by
 obtain⟨i0,hi,z0,z1,z2⟩:=info_parts jZ;have aV:=qqh hl.len;have HL:=qqh hl;have HS:=qqh hs;clear hl hs;go_enter Tryz.func110,Tryz.ntmps110;go_wp2_with fail;go_loopw [3,4,9] (Vl w s n) (fun _ _ i _=>n - (intOf i).toNat);(case atStart=>exact⟨0,0,0,[],Nat.zero_le _,rfl,rfl,by omega,by omega,by omega,World.ownsRow_nil _ _ _ _,rfl,rfl,Below.refl _ _⟩);obtain⟨j,k,a,acc,hj,rfl,rfl,ha0,mI,hk,hown,hk2,aX,hb⟩:=hrel;have hz:=hb.size;have hb0:=hb;obtain⟨A3,c3,rfl,lU⟩:=aI hown;by_cases hlt:j<n
 ·obtain⟨⟨x,y⟩,hx⟩:∃ z,s[j]? = some z:=⟨_,List.getElem?_eq_getElem (by rw [aV.out];exact hlt)⟩;obtain⟨b,off,rfl,dL,c0,c1⟩:=HL.out.at hx;have d0:=(hb.cell (p:=⟨b,off+j*2,none⟩) dL).trans c0;have d1:=(hb.cell (p:=⟨b,off+j*2+1,none⟩) dL).trans c1;have hxy:=HS.out.each (x,y) (List.mem_of_getElem? hx);simp only at hxy;rw [cB hx,ny]at aX;simp only at aX;have HX:=qqh hx;have b7:=qqh (hb.alloc hz (.cells #[.int .i32 x,.int .i32 y] 77));have xN:=qqh (World.ownsRow.alloc hown (.cells #[.int .i32 x,.int .i32 y] 77));have HOW:=qqh hown;have HY:=qqh (ai.new wr 77 #[.int .i32 x,.int .i32 y]);clear hx c0 c1 hown hb hb0;by_cases hgt:a<x
  ·rw [if_pos hgt]at aX;have HG:=qqh aX;have qS:=qqh (World.ownsRow.alloc xN.out (.cells #[.int .i32 a,.int .i32 (x - 1)] 77));have bG:=qqh (b7.out.alloc b7.out.size (.cells #[.int .i32 a,.int .i32 (x - 1)] 77));have HN:=qqh (show Rd ((wr.alloc (.cells #[.int .i32 x,.int .i32 y] 77)).alloc (.cells #[.int .i32 a,.int .i32 (x - 1)] 77)) (wr.heap.size+1+1) 2 (some ⟨wr.heap.size+1,0,none⟩) 1 [.int .i32 a,.int .i32 (x - 1)] by
    have:=Rd.new (wr.alloc (.cells #[.int .i32 x,.int .i32 y] 77)) 77 2 1 [.int .i32 a,.int .i32 (x - 1)] rfl;simpa using this)
   clear aX;go_wp2_with (at_builtin;refine ak _ rfl (.tmp 17) (.tmp 23) 41 rfl w.heap.size 77 i0 _ 2 8 Tryz.underlying41 hi z0 z1 z2 rfl (by decide) _ _ _ rfl qS.out (wr.heap.size+1+1) (some ⟨wr.heap.size+1,0,none⟩) 1 1 [.int .i32 a,.int .i32 (x - 1)] rfl HN.out (mY _ _) (by simp only [maxLen];omega) (by omega) bG.out.size ?_);intro v' w9 au;have eK:=qqh (bG.out.trans (au.below bG.out.size qS.out));have fN:=qqh (show w9.ownsRow w.heap.size 77 2 v' (k+1) (an (acc++[(a,x - 1)])) by rw [gP];exact au.own);have vJ:ai w9 wr.heap.size 77 #[.int .i32 x,.int .i32 y]:=by
    have h1:ai ((wr.alloc (.cells #[.int .i32 x,.int .i32 y] 77)).alloc (.cells #[.int .i32 a,.int .i32 (x - 1)] 77)) wr.heap.size 77 #[.int .i32 x,.int .i32 y]:=HY.out.alloc _;unfold ai at h1 ⊢;rw [au.2.1.block _ (by simp;omega) (fun e=>?_)];exact h1;have:=(aQ HOW.out e.symm).2;omega
   have e1:=vJ.cell 1;clear au vJ;go_wp2_with fail;exact⟨⟨j+1,k+1,y+1,acc++[(a,x - 1)],by omega,by go_num,rfl,by omega,by omega,by omega,fN.out,by simp;omega,by rw [HG.out];simp,eK.out⟩,by simp [intOf];omega⟩
  rw [if_neg hgt,List.nil_append]at aX;have HG:=qqh aX;clear aX;go_wp2_with fail;exact⟨⟨j+1,k,y+1,acc,by omega,by go_num,rfl,by omega,by omega,by omega,xN.out,by omega,HG.out,b7.out⟩,by simp [intOf];omega⟩
 obtain rfl:j=n:=(by omega);rw [List.drop_of_length_le (by rw [aV.out];omega),ny]at aX;by_cases hle:a≤1114111
 ·rw [if_pos hle]at aX;have HG:=qqh aX;have qS:=qqh (World.ownsRow.alloc hown (.cells #[.int .i32 a,.int .i32 1114111] 77));have bG:=qqh (hb.alloc hb.size (.cells #[.int .i32 a,.int .i32 1114111] 77));have HN:=qqh (Rd.new wr 77 2 1 [.int .i32 a,.int .i32 1114111] rfl);clear aX hown hb hb0;go_wp2_with (at_builtin;refine ak _ rfl (.tmp 31) (.tmp 34) 41 rfl w.heap.size 77 i0 _ 2 8 Tryz.underlying41 hi z0 z1 z2 rfl (by decide) _ _ _ rfl qS.out (wr.heap.size+1) (some ⟨wr.heap.size,0,none⟩) 1 1 [.int .i32 a,.int .i32 1114111] rfl HN.out (mY _ _) (by simp only [maxLen];omega) (by omega) bG.out.size ?_);intro v' w9 au;have eK:=qqh (bG.out.trans (au.below bG.out.size qS.out));have fN:=qqh (show w9.ownsRow w.heap.size 77 2 v' (k+1) (an (wW s)) by rw [HG.out,gP];exact au.own);clear au;obtain⟨A9,c9,rfl,FE⟩:=aI fN.out;go_wp2_with fail;go_ret;exact⟨A9,k+1,c9,rfl,bW.cy fN.out (fun b hb=>(aQ fN.out hb).1),by omega,FE,eK.out⟩
 rw [if_neg hle,List.append_nil]at aX;have fN:=qqh (show wr.ownsRow w.heap.size 77 2 (.slice A3 k c3) k (an (wW s)) by rw [aX];exact hown);clear aX hown hb0;go_wp2_with fail;go_ret;exact⟨A3,k,c3,rfl,bW.cy fN.out (fun b hb=>(aQ fN.out hb).1),by omega,lU,hb⟩
def Ov (w:World) (outs:List ag) (us:List Value):Prop:=∀ (i:Nat) (l:ag) (u:Value),outs[i]? = some l→us[i]? = some u→∃ A n c,u=.slice A n c∧Rd w w.heap.size 2 A n (an l)
theorem Ov.below {w w':World} {outs:List ag} {us:List Value} (h:Ov w outs us) (hb:Below w.heap.size w w'):Ov w' outs us:=by
 intro i l u h1 h2;obtain⟨A,n,c,e,hr⟩:=h i l u h1 h2;exact⟨A,n,c,e,(Rd.below hr hb).more hb.size⟩
theorem CG (A:Option Addr) (n c:Nat) (l:ag) (w:World) (hn:n≤100000) (hl:nD w w.heap.size A n l) :
    Calls Tryz.prog 66 #[.slice A n c] w fun e w'=>(∃ v,e=.returned v∧w'.ownsRow w.heap.size 77 2 v n (an l))∧Below w.heap.size w w':=by
 obtain⟨i0,hi,z0,z1,z2⟩:=info_parts jZ;have EW:=qqh (fun W=>Lib.run_eql_slice_nil (P:=Tryz.prog) W 41 77 A n c 0 0 Tryz.underlying41);have HL:=qqh hl;cases A with
 | none=>
  have h0:n=0:=by
   rcases Nat.eq_zero_or_pos n with h | h;exact h;obtain⟨b,o,e,_⟩:=hl.2 h;cases e
  subst h0;have E1:l = []:=List.eq_nil_of_length_eq_zero hl.len;subst E1;have heq:=fun W=>EW.out W;simp only [Option.isNone_none]at heq;clear hl;go_enter Tryz.func66,Tryz.ntmps66;go_wp2_with fail;go_ret;exact⟨⟨_,rfl,World.ownsRow_nil _ _ _ _⟩,Below.refl _ _⟩
 | some a=>
  have heq:=fun W=>EW.out W;simp only [Option.isNone_some]at heq;have QS:=qqh (pN w 77 2 w.heap.size w.heap.size rfl (Nat.le_refl _));have hba:=(Below.refl w.heap.size w).alloc (Nat.le_refl _) (.cells #[] 77);have xo:=qqh hba;have iZ:=qqh ((Rd.below hl hba).more hba.size);clear hba hl;go_enter Tryz.func66,Tryz.ntmps66;go_wp2_with (at_builtin;refine ak _ rfl (.tmp 5) (.tmp 6) 41 rfl w.heap.size 77 i0 _ 2 8 Tryz.underlying41 hi z0 z1 z2 rfl (by decide) _ _ _ rfl QS.out _ (some a) n c (an l) rfl iZ.out (mE _) (by simp only [maxLen];omega) (by omega) (by simp) ?_);intro v1 w3 au;have bL:=qqh (xo.out.trans (au.below (by simp) QS.out));have sy:=qqh au.own;clear au heq;go_wp2_with fail;go_ret;exact⟨⟨_,rfl,by simpa using sy.out⟩,bL.out⟩
theorem FQ (n:Nat) (w:World) (hn:n≤100000) :
    Calls Tryz.prog 130 #[.slice none 0 0,.int .i64 n] w fun e w'=>(∃ v,e=.returned v∧w'.ownsRow w.heap.size 77 2 v 0 [])∧Below w.heap.size w w':=by
 obtain⟨i0,hi,z0,z1,z2⟩:=info_parts jZ;by_cases h0:n=0
 ·subst h0;go_enter Tryz.func130,Tryz.ntmps130;go_wp2_with fail;go_ret;exact⟨⟨_,rfl,World.ownsRow_nil _ _ _ _⟩,Below.refl _ _⟩
 have hrun:=Lib.run_append_nil_zeros (P:=Tryz.prog) w 41 3 41 77 i0 (.agg #[.int .i32 0,.int .i32 0]) .i64 .i64 Tryz.underlying41 Tryz.underlying3 hi z0 n (by omega) (by omega) (by omega) (by rw [z2];omega);generalize hcap:grownCap w n 0 77 = cap at hrun;have acg:n≤cap:=(by rw [← hcap];exact grownCap_ge w _ 0 77);have RO:cap≤maxLen:=(by rw [← hcap];exact grownCap_le_maxLen w _ 0 77 (by simp only [maxLen];omega));generalize hZ:(Builtin.zeroCells (Value.agg #[.int .i32 0,.int .i32 0]).cells n++Builtin.zeroCells (Value.agg #[.int .i32 0,.int .i32 0]).cells (cap - n))=Z at hrun;have ZA:Z.size=cap*2:=(by rw [← hZ];simp [size_zeroCells,Value.cells];omega);have HR:=qqh hrun
 have HO:=qqh (show(w.drew.alloc (.cells Z 77)).ownsRow w.heap.size 77 2 (.slice (some ⟨w.heap.size,0,none⟩) 0 cap) 0 [] from
   ⟨rfl,.inr ⟨w.heap.size,cap,Z,rfl,Nat.le_refl _,heap_alloc_new w.drew _,Nat.zero_le _,RO,by omega,by simp⟩⟩)
 have HB:=qqh (show Below w.heap.size w (w.drew.alloc (.cells Z 77)) from((Below.refl w.heap.size w).drew).alloc (Nat.le_refl _) _);clear hcap hZ ZA hrun;go_enter Tryz.func130,Tryz.ntmps130;go_wp2_with (at_builtin;refine Lib.wpList_append_run _ rfl (.tmp 20) (.tmp 21) _ _ rfl (.slice none 0 0) (.int .i64 n) rfl rfl _ _ HR.out ?_);go_wp2_with fail;go_ret;exact⟨⟨_,rfl,HO.out⟩,HB.out⟩
theorem rC {outs:List ag} {k:Nat} {x:ag} (h:outs[k]? = some x):(outs.take (k+1)).flatten=(outs.take k).flatten++x:=by
 rw [List.take_add_one,h];simp
theorem su (outs:List ag) (k:Nat):(outs.take k).flatten.length≤outs.flatten.length:=by
 have h:=congrArg (fun z:List ag=>z.flatten.length) (List.take_append_drop k outs);simp only [List.flatten_append,List.length_append]at h;omega
def Vc (w:World) (outs:List ag) (m:Nat) (s3 i:Value) (wr:World):Prop :=
  ∃ k:Nat,k≤m∧i=.int .i64 k∧s3=.int .i64 (outs.take k).flatten.length∧w=wr
def SW (w:World) (outs:List ag) (m:Nat) (s6 i:Value) (wr:World):Prop :=
  ∃ (k N:Nat),k≤m∧i=.int .i64 k∧(outs.take k).flatten.length=N∧wr.ownsRow w.heap.size 77 2 s6 N (an (outs.take k).flatten)∧Below w.heap.size w wr
theorem Br (outs:List ag) (us:List Value) (A:Option Addr) (m c:Nat) (w:World) (hlen:outs.length=m) (hrd:Rd w w.heap.size 1 A m us) (hpc:Ov w outs us) (hsum:outs.flatten.length≤100000) (hm:m≤100000) :
    Calls Tryz.prog 105 #[.slice A m c] w fun e w'=>(∃ v,e=.returned v∧w'.ownsRow w.heap.size 77 2 v outs.flatten.length (an outs.flatten))∧Below w.heap.size w w':=by
 obtain⟨i0,hi,z0,z1,z2⟩:=info_parts jZ;have aV:=qqh hlen;have oe:=qqh hrd;have GW:=qqh hpc;have VH:=qqh (show us.length=m by have:=hrd.1;omega);have Bb:=qqh hsum;clear hlen hrd hpc hsum;go_enter Tryz.func105,Tryz.ntmps105;go_wp2_with fail;go_loopw [3,11] (Vc w outs m) (fun _ i _=>m - (intOf i).toNat);(case atStart=>exact⟨0,Nat.zero_le _,rfl,rfl,rfl⟩);obtain⟨k,hk,rfl,rfl,rfl⟩:=hrel;obtain⟨S,hS⟩:∃ S,(outs.take k).flatten.length=S:=⟨_,rfl⟩;have hS1:S≤100000:=(by have:=su outs k;have:=Bb.out;omega);by_cases hlt:k<m
 ·obtain⟨x,hx⟩:∃ x,outs[k]? = some x:=⟨_,List.getElem?_eq_getElem (by rw [aV.out];exact hlt)⟩;obtain⟨u,hu⟩:∃ u,us[k]? = some u:=⟨_,List.getElem?_eq_getElem (by rw [VH.out];exact hlt)⟩;obtain⟨P,n1,c1,rfl,hr⟩:=GW.out k x u hx hu;obtain⟨b,o,rfl,_,hc⟩:=oe.out.2 (by omega);have u0:=hc _ _ hu;have kU:=hr.1;rw [bE]at kU;have OX:=qqh (show(outs.take (k+1)).flatten.length=S+n1 by rw [rC hx,List.length_append,hS];omega);have P8:S+n1≤100000:=(by have:=OX.out;have:=su outs (k+1);have:=Bb.out;omega);have hk0:(0:Int)≤(k:Int):=(by omega);have XA:decide ((S:Int)+(n1:Int)<0)=false:=decide_eq_false (by omega);rw [hS];clear hx hu hr hc kU hS;go_wp2_with fail;exact⟨⟨k+1,by omega,by go_num,by rw [OX.out];go_num,rfl⟩,by simp [intOf];omega⟩
 obtain rfl:k=m:=(by omega);rw [List.take_of_length_le (by rw [aV.out];exact Nat.le_refl _)]at hS ⊢;have HS:=qqh hS;rw [hS];clear hS;go_wp2_with fail;refine(FQ S _ hS1).mono ?_;rintro e w1 ⟨⟨v,rfl,ho⟩,aW⟩;have HO:=qqh ho;have HB:=qqh aW;obtain⟨A1,c1,rfl,_⟩:=aI ho;clear ho aW;go_wp2_with fail;go_loopw [6,27] (SW w outs k) (fun _ i _=>k - (intOf i).toNat);(case atStart=>exact⟨0,0,Nat.zero_le _,rfl,rfl,HO.out,HB.out⟩);obtain⟨j,N,hj,rfl,hN,ho,hb⟩:=hrel;have HO:=qqh ho;have HB:=qqh hb;have HN:=qqh hN;have hz:=hb.size;have hN1:N≤100000:=(by have:=su outs j;have:=Bb.out;omega);obtain⟨A2,c2,rfl,_⟩:=aI ho;clear ho hN;by_cases hlt:j<k
 ·obtain⟨x,hx⟩:∃ x,outs[j]? = some x:=⟨_,List.getElem?_eq_getElem (by rw [aV.out];exact hlt)⟩;obtain⟨u,hu⟩:∃ u,us[j]? = some u:=⟨_,List.getElem?_eq_getElem (by rw [VH.out];exact hlt)⟩;obtain⟨P,n1,TO,rfl,hr⟩:=(GW.out.below hb) j x u hx hu;obtain⟨b,o,rfl,dL,hc⟩:=(Rd.below oe.out hb).2 (by omega);have u0:=hc _ _ hu;have kU:=hr.1;rw [bE]at kU;have OX:=qqh (rC hx);have ov:=qqh (show(outs.take (j+1)).flatten.length=N+n1 by rw [rC hx,List.length_append,HN.out];omega);have P8:N+n1≤100000:=(by have:=ov.out;have:=su outs (j+1);have:=Bb.out;omega);have HR:=qqh hr;clear hx hu hr hc kU hb;go_wp2_with (at_builtin;refine ak _ rfl (.tmp 31) (.tmp 32) 41 rfl w.heap.size 77 i0 _ 2 8 Tryz.underlying41 hi z0 z1 z2 rfl (by decide) _ N _ rfl HO.out _ P n1 TO (an x) rfl HR.out (mE _) (by simp only [maxLen];omega) (by omega) hz ?_);intro v' w9 au;have eK:=qqh (HB.out.trans (au.below hz HO.out));have fN:=qqh (show w9.ownsRow w.heap.size 77 2 v' (N+n1) (an (outs.take (j+1)).flatten) by rw [OX.out,xg];exact au.own);clear au;go_wp2_with fail;exact⟨⟨j+1,N+n1,by omega,by go_num,ov.out,fN.out,eK.out⟩,by simp [intOf];omega⟩
 obtain rfl:j=k:=(by omega);have HF:=qqh (show wr.ownsRow w.heap.size 77 2 (.slice A2 N c2) outs.flatten.length (an outs.flatten) by
  have h1:=HO.out;have h2:=HN.out;rw [List.take_of_length_le (by rw [aV.out];exact Nat.le_refl _)]at h1 h2;rw [h2];exact h1)
 clear hb;go_wp2_with fail;go_ret;exact⟨⟨_,rfl,HF.out⟩,HB.out⟩
def mN:Nat→List aF→Int × Int
  | _,[]=>(0,0)
  | i,p::r=>if gy p=0 then mN (i+1) r else (gy p,i)
def fP (l:List aF):Int × Int:=if 200<l.length then (5,0)else mN 0 l
theorem Ij {w:World} {B n:Nat} {A:Option Addr} {l:List aF} (h:Ee w B A n l) {k:Nat} {p:aF} (hk:l[k]? = some p) :
    ∃ (b off:Nat) (A':Option Addr) (n' c':Nat) (L1 L2 L3 R1 R2 R3:Option Addr) (a1 a2 a3 x1 x2 x3 b1 b2 b3 y1 y2 y3:Nat),A=some ⟨b,off,none⟩∧b<B∧(w.cell? ⟨b,off+k*16,none⟩=some (.int .i64 p.kind)∧w.cell? ⟨b,off+k*16+1,none⟩=some (.string p.name)∧w.cell? ⟨b,off+k*16+2,none⟩=some (.slice A' n' c')∧w.cell? ⟨b,off+k*16+3,none⟩=some (.int .i64 p.dir)∧w.cell? ⟨b,off+k*16+4,none⟩=some (.bool p.left.start)∧w.cell? ⟨b,off+k*16+5,none⟩=some (.bool p.left.fin)∧w.cell? ⟨b,off+k*16+6,none⟩=some (.slice L1 a1 x1)∧w.cell? ⟨b,off+k*16+7,none⟩=some (.slice L2 a2 x2)∧w.cell? ⟨b,off+k*16+8,none⟩=some (.slice L3 a3 x3)∧w.cell? ⟨b,off+k*16+9,none⟩=some (.int .i64 p.left.aa)∧w.cell? ⟨b,off+k*16+10,none⟩=some (.bool p.right.start)∧w.cell? ⟨b,off+k*16+11,none⟩=some (.bool p.right.fin)∧w.cell? ⟨b,off+k*16+12,none⟩=some (.slice R1 b1 y1)∧w.cell? ⟨b,off+k*16+13,none⟩=some (.slice R2 b2 y2)∧w.cell? ⟨b,off+k*16+14,none⟩=some (.slice R3 b3 y3)∧w.cell? ⟨b,off+k*16+15,none⟩=some (.int .i64 p.right.aa))∧nD w B A' n' p.set∧n'≤maxLen∧bU w B L1 a1 p.left.before∧bU w B L2 a2 p.left.source∧bU w B L3 a3 p.left.after∧a1≤maxLen∧a2≤maxLen∧a3≤maxLen∧bU w B R1 b1 p.right.before∧bU w B R2 b2 p.right.source∧bU w B R3 b3 p.right.after∧b1≤maxLen∧b2≤maxLen∧b3≤maxLen∧lI p.left.aa∧lI p.right.aa∧p.name.size≤maxLen:=by
 obtain⟨b,off,cs,e,hb,⟨A',n',c',ls,rs,hcs,h1,h2,⟨L1,a1,x1,L2,a2,x2,L3,a3,x3,hls,l1,l2,l3,l4,l5,l6,l7⟩,⟨R1,b1,y1,R2,b2,y2,R3,b3,y3,hrs,r1,r2,r3,r4,r5,r6,r7⟩,_,_,h5⟩,hc⟩:=kW.at h hk;subst hls hrs;subst hcs;exact⟨b,off,A',n',c',L1,L2,L3,R1,R2,R3,a1,a2,a3,x1,x2,x3,b1,b2,b3,y1,y2,y3,e,hb,⟨hc 0 _ rfl,hc 1 _ rfl,hc 2 _ rfl,hc 3 _ rfl,hc 4 _ rfl,hc 5 _ rfl,hc 6 _ rfl,hc 7 _ rfl,hc 8 _ rfl,hc 9 _ rfl,hc 10 _ rfl,hc 11 _ rfl,hc 12 _ rfl,hc 13 _ rfl,hc 14 _ rfl,hc 15 _ rfl⟩,h1,h2,l1,l2,l3,l4,l5,l6,r1,r2,r3,r4,r5,r6,l7,r7,h5⟩
def VC (w:World) (l:List aF) (n:Nat) (i:Value) (wr:World):Prop :=
  ∃ k:Nat,k≤n∧i=.int .i64 k∧mN 0 l=mN k (l.drop k)∧ai wr w.heap.size 32 #[.int .i64 0,.int .i64 0]∧Below w.heap.size w wr
theorem DF {l:List aE} (h:cG l=0):l.length≤20∧∀ a∈l,o8 a=0:=by
 have h20:=mw h;refine⟨h20,?_⟩;unfold cG at h;rw [if_neg (by omega)]at h;clear h20;induction l with
 | nil=>simp
 | cons a l ih=>
  rw [mj]at h;by_cases h1:o8 a=0
  ·rw [if_pos h1]at h;intro x hx;rcases List.mem_cons.1 hx with rfl | hx;exact h1;exact ih h x hx
  rw [if_neg h1]at h;exact absurd h h1
theorem Fh {a:aE} (h:o8 a=0):(a.kind=1∧bg a.rune=true)∨(a.kind=2∧bS a.set=0)∨(a.kind=3∧eI a.name=true):=by
 unfold o8 at h;by_cases h1:a.kind=1
 ·rw [if_pos h1]at h;cases hr:bg a.rune
  ·rw [hr]at h;simp at h
  exact .inl ⟨h1,rfl⟩
 rw [if_neg h1]at h;by_cases h2:a.kind=2
 ·rw [if_pos h2]at h;exact .inr (.inl ⟨h2,h⟩)
 rw [if_neg h2]at h;by_cases h3:a.kind=3
 ·rw [if_pos h3]at h;cases hr:eI a.name
  ·rw [hr]at h;simp at h
  exact .inr (.inr ⟨h3,rfl⟩)
 rw [if_neg h3]at h;cases h
theorem I1 {s:ByteArray} (h:eI s=true):s.size≤20:=by
 unfold eI at h;rw [decide_eq_true_iff]at h;exact h.2.1
theorem Hg {s:bY} {gz:Bool} (h:bT s gz=0):cG s.before=0∧cG s.source=0∧cG s.after=0:=by
 unfold bT at h;by_cases h0:fE [s.before,s.source,s.after] = 0
 ·simp only [fE]at h0;by_cases h1:cG s.before=0
  ·rw [if_pos h1]at h0;by_cases h2:cG s.source=0
   ·rw [if_pos h2]at h0;by_cases h3:cG s.after=0;exact⟨h1,h2,h3⟩;rw [if_neg h3]at h0;exact absurd h0 h3
   rw [if_neg h2]at h0;exact absurd h0 h2
  rw [if_neg h1]at h0;exact absurd h0 h1
 rw [if_neg h0]at h;exact absurd h h0
def SK (p:aF):Prop :=
  (p.dir=1∨p.dir=2∨p.dir=3)∧(cG p.left.before=0∧cG p.left.source=0∧cG p.left.after=0)∧(cG p.right.before=0∧cG p.right.source=0∧cG p.right.after=0)
theorem qX {p:aF} (h:gy p=0):(p.kind=1∧eI p.name=true∧bS p.set=0)∨(p.kind=3∧bS p.set=0)∨(p.kind=4∧kE p.name=true)∨(p.kind=2∧SK p):=by
 unfold gy at h;by_cases h1:p.kind=1
 ·rw [if_pos h1]at h;cases hn:eI p.name
  ·rw [hn]at h;simp at h
  rw [hn,if_pos rfl]at h;exact .inl ⟨h1,rfl,h⟩
 rw [if_neg h1]at h;by_cases h3:p.kind=3
 ·rw [if_pos h3]at h;exact .inr (.inl ⟨h3,h⟩)
 rw [if_neg h3]at h;by_cases h4:p.kind=4
 ·rw [if_pos h4]at h;cases hn:kE p.name
  ·rw [hn]at h;simp at h
  exact .inr (.inr (.inl ⟨h4,rfl⟩))
 rw [if_neg h4]at h;by_cases h2:p.kind=2
 ·rw [if_pos h2]at h;unfold de at h;by_cases hd:p.dir<1∨3<p.dir
  ·rw [if_pos hd]at h;cases h
  rw [if_neg hd]at h;by_cases hl:bT p.left (p.dir != 2)=0
  ·rw [if_pos hl]at h;by_cases hr:bT p.right (p.dir != 1)=0;exact .inr (.inr (.inr ⟨h2,by omega,Hg hl,Hg hr⟩));rw [if_neg hr]at h;exact absurd h hr
  rw [if_neg hl]at h;exact absurd h hl
 rw [if_neg h2]at h;cases h
theorem IQ {l:List aF}:∀ i,(mN i l).1=0→mN i l=(0,0)∧∀ p∈l,gy p=0:=by
 induction l with
 | nil=>intro i _;exact⟨rfl,by simp⟩
 | cons p l ih=>
  intro i h;rw [mN]at h ⊢;by_cases h1:gy p=0
  ·rw [if_pos h1]at h ⊢;obtain⟨h2,h3⟩:=ih (i+1) h;refine⟨h2,fun q hq=>?_⟩;rcases List.mem_cons.1 hq with rfl | hq;exact h1;exact h3 q hq
  rw [if_neg h1]at h;exact absurd h h1
theorem Pg {l:List aF} (h:(fP l).1=0):l.length≤200∧fP l=(0,0)∧∀ p∈l,gy p=0:=by
 unfold fP at h ⊢;by_cases h2:200<l.length
 ·rw [if_pos h2]at h;cases h
 rw [if_neg h2]at h ⊢;obtain⟨h3,h4⟩:=IQ 0 h;exact⟨by omega,h3,h4⟩
def Eo (a:aE):aE:=⟨a.kind,if a.kind=1 then a.rune else 0,if a.kind=2 then a.set else [],if a.kind=3 then a.name else ⟨#[]⟩⟩
def Ic (s:bY):bY:=⟨s.start,s.fin,s.before.map Eo,s.source.map Eo,s.after.map Eo,s.aa⟩
def Im:bY:=⟨false,false,[],[],[],0⟩
def Q0 (p:aF):aF:=⟨p.kind,if p.kind=1∨p.kind=4 then p.name else ⟨#[]⟩,if p.kind=1∨p.kind=3 then p.set else [],if p.kind=2 then p.dir else 0,if p.kind=2 then Ic p.left else Im,if p.kind=2 then Ic p.right else Im⟩
def qy (w:World) (X:Nat→Prop) (a:aE) (cs:List Value):Prop :=
  ∃ A n c,cs = [.int .i64 a.kind,.int .i32 a.rune,.slice A n c,.string a.name]∧bW w X 2 A n (an a.set)∧n≤maxLen∧lI a.kind∧a.name.size≤maxLen
def jh (w:World) (X:Nat→Prop) (A:Option Addr) (n:Nat) (l:List aE):Prop:=aZ (qy w X) w X 4 A n l
def sB (w:World) (X:Nat→Prop) (s:bY) (cs:List Value):Prop :=
  ∃ A1 n1 c1 A2 n2 c2 A3 n3 c3,cs = [.bool s.start,.bool s.fin,.slice A1 n1 c1,.slice A2 n2 c2,.slice A3 n3 c3,.int .i64 s.aa] ∧
    jh w X A1 n1 s.before∧jh w X A2 n2 s.source∧jh w X A3 n3 s.after∧n1≤maxLen∧n2≤maxLen∧n3≤maxLen∧lI s.aa
def eO (w:World) (X:Nat→Prop) (p:aF) (cs:List Value):Prop :=
  ∃ A n c ls rs,cs = [.int .i64 p.kind,.string p.name,.slice A n c,.int .i64 p.dir]++ls++rs∧bW w X 2 A n (an p.set)∧n≤maxLen∧sB w X p.left ls∧sB w X p.right rs∧lI p.kind∧lI p.dir∧p.name.size≤maxLen
def gT (w:World) (X:Nat→Prop) (A:Option Addr) (n:Nat) (l:List aF):Prop:=aZ (eO w X) w X 16 A n l
section
variable {w w' : World} {X X' : Nat → Prop} (hk : af w X w' X')
include hk
theorem qy.keep {a:aE} {cs:List Value} (h:qy w X a cs):qy w' X' a cs:=by
 obtain⟨A,n,c,e,h1,h2⟩:=h;exact⟨A,n,c,e,h1.keep hk,h2⟩
theorem jh.keep {A:Option Addr} {n:Nat} {l:List aE} (h:jh w X A n l):jh w' X' A n l:=aZ.keep hk (fun _ _=>qy.keep hk) h
theorem sB.keep {s:bY} {cs:List Value} (h:sB w X s cs):sB w' X' s cs:=by
 obtain⟨A1,n1,c1,A2,n2,c2,A3,n3,c3,e,h1,h2,h3,h4⟩:=h;exact⟨A1,n1,c1,A2,n2,c2,A3,n3,c3,e,h1.keep hk,h2.keep hk,h3.keep hk,h4⟩
theorem eO.keep {p:aF} {cs:List Value} (h:eO w X p cs):eO w' X' p cs:=by
 obtain⟨A,n,c,ls,rs,e,h1,h2,h3,h4,h5⟩:=h;exact⟨A,n,c,ls,rs,e,h1.keep hk,h2,h3.keep hk,h4.keep hk,h5⟩
theorem gT.keep {A:Option Addr} {n:Nat} {l:List aF} (h:gT w X A n l):gT w' X' A n l:=aZ.keep hk (fun _ _=>eO.keep hk) h
end
section
variable {α : Type} {w : World} {B sz n : Nat} {A : Option Addr}
variable {X : Nat → Prop}
theorem aZ.rd {R R':α→List Value→Prop} {l:List α} (hR:∀ a cs,R a cs→R' a cs) (h:aZ R w X sz A n l):kW R' w w.heap.size sz A n l:=by
 obtain⟨css,h1,h2,h3,h4,h5⟩:=h;exact⟨css,h1,h2,fun i a cs ha hc=>hR a cs (h3 i a cs ha hc),h4,h5.rd (fun _ _ h=>h)⟩
theorem qy.rd {a:aE} {cs:List Value} (h:qy w X a cs):AF w w.heap.size a cs:=by
 obtain⟨A,n,c,e,h1,h2⟩:=h;exact⟨A,n,c,e,h1.rd (fun _ _ h=>h),h2⟩
theorem jh.rd {l:List aE} (h:jh w X A n l):bU w w.heap.size A n l:=aZ.rd (fun _ _=>qy.rd) h
theorem sB.rd {s:bY} {cs:List Value} (h:sB w X s cs):uC w w.heap.size s cs:=by
 obtain⟨A1,n1,c1,A2,n2,c2,A3,n3,c3,e,h1,h2,h3,h4⟩:=h;exact⟨A1,n1,c1,A2,n2,c2,A3,n3,c3,e,h1.rd,h2.rd,h3.rd,h4⟩
theorem eO.rd {p:aF} {cs:List Value} (h:eO w X p cs):AM w w.heap.size p cs:=by
 obtain⟨A,n,c,ls,rs,e,h1,h2,h3,h4,h5⟩:=h;exact⟨A,n,c,ls,rs,e,h1.rd (fun _ _ h=>h),h2,h3.rd,h4.rd,h5⟩
theorem gT.rd {l:List aF} (h:gT w X A n l):Ee w w.heap.size A n l:=aZ.rd (fun _ _=>eO.rd) h
theorem qy.one {a:aE} {cs:List Value} (h:qy w X a cs):cs.length=4∧∀ u∈cs,u.oneCell'=true:=by
 obtain⟨A,n,c,rfl,_⟩:=h;refine⟨rfl,fun u hu=>?_⟩;simp at hu;rcases hu with rfl | rfl | rfl | rfl <;> rfl
theorem eO.one {p:aF} {cs:List Value} (h:eO w X p cs):cs.length=16∧∀ u∈cs,u.oneCell'=true:=by
 obtain⟨A,n,c,ls,rs,rfl,_,_,⟨A1,n1,c1,A2,n2,c2,A3,n3,c3,rfl,_⟩,⟨B1,m1,d1,B2,m2,d2,B3,m3,d3,rfl,_⟩,_⟩:=h;refine⟨rfl,fun u hu=>?_⟩;simp at hu;rcases hu with rfl | rfl | rfl | rfl | rfl | rfl | rfl | rfl | rfl | rfl | rfl | rfl | rfl | rfl | rfl | rfl <;> rfl
theorem eO.form {q:aF} {cs:List Value} (h:eO w X q cs):∃ A' n' c' L1 a1 x1 L2 a2 x2 L3 a3 x3 R1 b1 y1 R2 b2 y2 R3 b3 y3,cs = [.int .i64 q.kind,.string q.name,.slice A' n' c',.int .i64 q.dir,.bool q.left.start,.bool q.left.fin,.slice L1 a1 x1,.slice L2 a2 x2,.slice L3 a3 x3,.int .i64 q.left.aa,.bool q.right.start,.bool q.right.fin,.slice R1 b1 y1,.slice R2 b2 y2,.slice R3 b3 y3,.int .i64 q.right.aa]:=by
 obtain⟨A,n,c,ls,rs,rfl,_,_,⟨A1,n1,c1,A2,n2,c2,A3,n3,c3,rfl,_⟩,⟨B1,m1,d1,B2,m2,d2,B3,m3,d3,rfl,_⟩,_⟩:=h;exact⟨A,n,c,A1,n1,c1,A2,n2,c2,A3,n3,c3,B1,m1,d1,B2,m2,d2,B3,m3,d3,rfl⟩
theorem bW.nil (sz:Nat):bW w X sz none 0 []:=⟨by simp,fun h=>absurd h (Nat.lt_irrefl 0)⟩
theorem jh.nil:jh w X none 0 []:=⟨[],rfl,rfl,by simp,by simp,bW.nil 4⟩
theorem kX:sB w X Im [.bool false,.bool false,.slice none 0 0,.slice none 0 0,.slice none 0 0,.int .i64 0] :=
  ⟨none,0,0,none,0,0,none,0,0,rfl,jh.nil,jh.nil,jh.nil,Nat.zero_le _,Nat.zero_le _,Nat.zero_le _,by unfold lI Im;dsimp only;omega⟩
end
theorem IG:(Tryz.prog.info? 97).map (fun i=>(i.zero,i.size,i.bytes))=some (some (.agg #[.int .i64 0,.string ⟨#[]⟩,.slice none 0 0,.int .i64 0,.bool false,.bool false,.slice none 0 0,.slice none 0 0,.slice none 0 0,.int .i64 0,.bool false,.bool false,.slice none 0 0,.slice none 0 0,.slice none 0 0,.int .i64 0]),16,232):=by kernel_rfl
def gA:List aF→ByteArray→Option ag
  | [],_=>none
  | p::r,s=>if p.kind=1∧p.name=s then some p.set else gA r s
def vA (l:List aF) (a:aE):Option ag:=if a.kind=1 then some [(a.rune,a.rune)]else if a.kind=2 then some a.set else gA l a.name
def cC (l:List aF):List aE→Option (List ag)
  | []=>some []
  | a::r=>match vA l a with
    | none=>none
    | some s=>(cC l r).map (s :: ·)
def eY (l:List aF) (from_ to:bY):Option aj :=
  match cC l from_.before,cC l from_.source,cC l from_.after with
  | some a,some b,some c=>some ⟨from_.start,from_.fin,a,b,c,to.source.map (·.rune),if to.aa<0 then (to.source.length:Int)else to.aa⟩
  | _,_,_=>none
theorem rU (l:List aF) (a b:List aE):cC l (a++b)=match cC l a,cC l b with
    | some x,some y=>some (x++y)
    | _,_=>none:=by
 induction a with
 | nil=>simp [cC];cases cC l b <;> rfl
 | cons x a ih=>
  rw [List.cons_append,cC,cC,ih];cases vA l x with
  | none=>rfl
  | some s=>cases cC l a <;> cases cC l b <;> simp
theorem Kf {l:List aF} {x:aE} {s:ag} (h:vA l x=some s):cC l [x] = some [s]:=by
 rw [cC,h,cC];rfl
theorem qY {l:List aF} {L:List aE} {k:Nat} {x:aE} {ll:List ag} {s:ag} (hx:L[k]? = some x) (h1:cC l (L.take k)=some ll) (h2:vA l x=some s):cC l (L.take (k+1))=some (ll++[s]):=by
 rw [List.take_add_one,hx];simp only [Option.toList];rw [rU,h1,Kf h2]
theorem FL {l:List aF} {L:List aE} {k:Nat} {x:aE} (hx:L[k]? = some x) (h2:vA l x=none):cC l L=none:=by
 have e:L=L.take k++x::L.drop (k+1):=by
  rw [← cB hx,List.take_append_drop]
 rw [e,rU,cC,h2];cases cC l (L.take k) <;> rfl
theorem Jr {l:List aF} {L:List aE} {ll:List ag} (h:cC l L=some ll):ll.length=L.length:=by
 induction L generalizing ll with
 | nil=>rw [cC]at h;cases h;rfl
 | cons x L ih=>
  rw [cC]at h;cases hs:vA l x with
  | none=>rw [hs]at h;cases h
  | some s=>
   rw [hs]at h;cases h2:cC l L with
   | none=>rw [h2]at h;cases h
   | some m=>
    rw [h2]at h;cases h;simp [ih h2]
theorem MN (a b:ByteArray):(a.toList == b.toList)=decide (a=b):=by
 rw [Bool.eq_iff_iff,beq_iff_eq,decide_eq_true_iff,Lib.toList_data,Lib.toList_data];constructor
 ·intro h;exact ByteArray.ext (Array.ext' h)
 intro h;rw [h]
theorem Dh {xs ys:List Int} {k:Nat} {x y:Int} (hx:xs[k]? = some x) (hy:ys[k]? = some y) (h:x≠y):false=(xs == ys):=by
 symm;rw [beq_eq_false_iff_ne];rintro rfl;rw [hx]at hy;cases hy;exact h rfl
theorem yJ {xs ys:List Int} {k:Nat} {x:Int} (hx:xs[k]? = some x) (hy:ys[k]? = some x) (he:xs.take k=ys.take k):xs.take (k+1)=ys.take (k+1):=by
 rw [List.take_add_one,List.take_add_one,he,hx,hy]
theorem AX {xs ys:List Int} {n:Nat} (hx:xs.length=n) (hy:ys.length=n) (he:xs.take n=ys.take n):true=(xs == ys):=by
 rw [List.take_of_length_le (by omega),List.take_of_length_le (by omega)]at he;simp [he]
theorem BM (A C:Option Addr) (n m c d:Nat) (xs ys:List Int) (w:World) (hn:n≤9223372036854775807) (hx:NP w w.heap.size A n xs) (hy:NP w w.heap.size C m ys) :
    Calls Tryz.prog 121 #[.slice A n c,.slice C m d] w fun e w'=>e=.returned (.bool (xs == ys))∧∃ k,w'=w.drewN k:=by
 have LX:=qqh hx.len;have LY:=qqh hy.len;have HX:=qqh hx;have HY:=qqh hy;clear hx hy;by_cases hnm:n=m
 ·subst hnm;go_enter Tryz.func121,Tryz.ntmps121;go_wp2_with fail;go_loopw [13] (fun i wr=>∃ k q:Nat,k≤n∧i=.int .i64 k∧wr=w.drewN q∧xs.take k=ys.take k) (fun i _=>n - (intOf i).toNat);(case atStart=>exact⟨0,0,Nat.zero_le _,rfl,rfl,rfl⟩);obtain⟨k,q,hk,rfl,rfl,heq⟩:=hrel;have HE:=qqh heq;clear heq;by_cases hlt:k<n
  ·obtain⟨x,hx⟩:∃ z,xs[k]? = some z:=⟨_,List.getElem?_eq_getElem (by rw [LX.out];exact hlt)⟩;obtain⟨y,hy⟩:∃ z,ys[k]? = some z:=⟨_,List.getElem?_eq_getElem (by rw [LY.out];exact hlt)⟩;obtain⟨b1,o1,rfl,aW,hc1⟩:=HX.out.at hx;obtain⟨b2,o2,rfl,bu,hc2⟩:=HY.out.at hy;have oH:=qqh hx;have wH:=qqh hy;clear hx hy;by_cases he:x=y
   ·subst he;go_wp2_with fail;go_quiet (fail);go_wp2_with fail;exact⟨⟨k+1,_,by omega,by go_num,rfl,yJ oH.out wH.out HE.out⟩,by simp [intOf];omega⟩
   have hd:(x != y)=true:=(by rw [bne_iff_ne];exact he);go_wp2_with fail;go_quiet (fail);go_wp2_with fail;go_ret;exact⟨bB (Dh oH.out wH.out he),_,World.drewN_drewN _ _ _⟩
  obtain rfl:k=n:=(by omega);go_wp2_with fail;go_ret;exact⟨bB (AX LX.out LY.out HE.out),_,rfl⟩
 have hne:((n:Int) !=(m:Int))=true:=(by rw [bne_iff_ne];omega);go_enter Tryz.func121,Tryz.ntmps121;go_wp2_with fail;go_ret;refine⟨bB ?_,0,rfl⟩;symm;rw [beq_eq_false_iff_ne];intro e;have h1:=LX.out;have h2:=LY.out;rw [e]at h1;omega
end Go.Proofs.YthgkedoildcbcaaGreatDoor
