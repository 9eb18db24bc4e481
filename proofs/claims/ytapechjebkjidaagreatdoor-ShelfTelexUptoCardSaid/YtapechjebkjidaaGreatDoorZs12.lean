/- PartWalk + PartAll + FileSyn + RulesP + RulesMono + RulesEmb + SpaceEq -/
import Derived.Test.YtapechjebkjidaaGreatDoorZs10
import Derived.Deep.RegionWith
import Derived.Test.YtapechjebkjidaaGreatDoorZs11
import Derived.Test.YtapechjebkjidaaGreatDoorZs8
set_option maxHeartbeats 1600000
set_option maxRecDepth 100000
namespace Go.Proofs.YtapechjebkjidaaGreatDoor
open Go.RowKit
theorem Dy {w:World} {g:Nat} {t:TypeId} {cs:Array Value} (h:ak w g t cs):ak w.drew g t cs:=h
theorem Oy (name:ByteArray) (set:af) (left right:cn) (dir:Int) (A:Option Addr) (n c:Nat) (L1 L2 L3 R1 R2 R3:Option Addr) (a1 a2 a3 x1 x2 x3 b1 b2 b3 y1 y2 y3:Nat) (w:World) (hs:mX w w.heap.size A n set) (hn:n≤9223372036854775807) :
    Calls Tryz.prog 84 #[.agg #[.int .i64 1,.string name,.slice A n c,.int .i64 dir,.bool left.start,.bool left.fin,.slice L1 a1 x1,.slice L2 a2 x2,.slice L3 a3 x3,.int .i64 left.aa,.bool right.start,.bool right.fin,.slice R1 b1 y1,.slice R2 b2 y2,.slice R3 b3 y3,.int .i64 right.aa]] w fun e w'=>e=.returned (.int .i64 (if ep name=true then bV set else 7))∧Below w.heap.size w w':=by
 have HB:=Lib.hid ((Below.refl w.heap.size w).alloc (Nat.le_refl _) (.cells #[.int .i64 1,.string name,.slice A n c,.int .i64 dir,.bool left.start,.bool left.fin,.slice L1 a1 x1,.slice L2 a2 x2,.slice L3 a3 x3,.int .i64 left.aa,.bool right.start,.bool right.fin,.slice R1 b1 y1,.slice R2 b2 y2,.slice R3 b3 y3,.int .i64 right.aa] 97));have HS:=Lib.hid (uk hs (.cells #[.int .i64 1,.string name,.slice A n c,.int .i64 dir,.bool left.start,.bool left.fin,.slice L1 a1 x1,.slice L2 a2 x2,.slice L3 a3 x3,.int .i64 left.aa,.bool right.start,.bool right.fin,.slice R1 b1 y1,.slice R2 b2 y2,.slice R3 b3 y3,.int .i64 right.aa] 97));clear hs;cases hr:ep name
 ·go_enter Tryz.func84,Tryz.ntmps84;go_wp2_with (go_at_call 109;refine(jr _ _).mono ?_;rintro e w' ⟨rfl,rfl⟩;rw [hr]);go_ret;exact⟨rfl,HB.out⟩
 go_enter Tryz.func84,Tryz.ntmps84;go_wp2_with (go_at_call 109;refine(jr _ _).mono ?_;rintro e w' ⟨rfl,rfl⟩;rw [hr]);refine(jk A n c set _ hn HS.out).mono ?_;rintro e w' ⟨rfl,hb⟩;go_wp2_with fail;go_ret;exact⟨rfl,HB.out.trans (hb.mono (by simp))⟩
theorem EK (name:ByteArray) (set:af) (left right:cn) (dir:Int) (A:Option Addr) (n c:Nat) (L1 L2 L3 R1 R2 R3:Option Addr) (a1 a2 a3 x1 x2 x3 b1 b2 b3 y1 y2 y3:Nat) (w:World) (hs:mX w w.heap.size A n set) (hn:n≤9223372036854775807) :
    Calls Tryz.prog 84 #[.agg #[.int .i64 3,.string name,.slice A n c,.int .i64 dir,.bool left.start,.bool left.fin,.slice L1 a1 x1,.slice L2 a2 x2,.slice L3 a3 x3,.int .i64 left.aa,.bool right.start,.bool right.fin,.slice R1 b1 y1,.slice R2 b2 y2,.slice R3 b3 y3,.int .i64 right.aa]] w fun e w'=>e=.returned (.int .i64 (bV set))∧Below w.heap.size w w':=by
 have HB:=Lib.hid ((Below.refl w.heap.size w).alloc (Nat.le_refl _) (.cells #[.int .i64 3,.string name,.slice A n c,.int .i64 dir,.bool left.start,.bool left.fin,.slice L1 a1 x1,.slice L2 a2 x2,.slice L3 a3 x3,.int .i64 left.aa,.bool right.start,.bool right.fin,.slice R1 b1 y1,.slice R2 b2 y2,.slice R3 b3 y3,.int .i64 right.aa] 97));have HS:=Lib.hid (uk hs (.cells #[.int .i64 3,.string name,.slice A n c,.int .i64 dir,.bool left.start,.bool left.fin,.slice L1 a1 x1,.slice L2 a2 x2,.slice L3 a3 x3,.int .i64 left.aa,.bool right.start,.bool right.fin,.slice R1 b1 y1,.slice R2 b2 y2,.slice R3 b3 y3,.int .i64 right.aa] 97));clear hs;go_enter Tryz.func84,Tryz.ntmps84;go_wp2_with fail;refine(jk A n c set _ hn HS.out).mono ?_;rintro e w' ⟨rfl,hb⟩;go_wp2_with fail;go_ret;exact⟨rfl,HB.out.trans (hb.mono (by simp))⟩
theorem FN (name:ByteArray) (left right:cn) (kind dir:Int) (A:Option Addr) (n c:Nat) (L1 L2 L3 R1 R2 R3:Option Addr) (a1 a2 a3 x1 x2 x3 b1 b2 b3 y1 y2 y3:Nat) (w:World) (k1:kind≠1) (k2:kind≠2) (k3:kind≠3) (k4:kind≠4) :
    Calls Tryz.prog 84 #[.agg #[.int .i64 kind,.string name,.slice A n c,.int .i64 dir,.bool left.start,.bool left.fin,.slice L1 a1 x1,.slice L2 a2 x2,.slice L3 a3 x3,.int .i64 left.aa,.bool right.start,.bool right.fin,.slice R1 b1 y1,.slice R2 b2 y2,.slice R3 b3 y3,.int .i64 right.aa]] w fun e w'=>e=.returned (.int .i64 (1))∧Below w.heap.size w w':=by
 have HB:=Lib.hid ((Below.refl w.heap.size w).alloc (Nat.le_refl _) (.cells #[.int .i64 kind,.string name,.slice A n c,.int .i64 dir,.bool left.start,.bool left.fin,.slice L1 a1 x1,.slice L2 a2 x2,.slice L3 a3 x3,.int .i64 left.aa,.bool right.start,.bool right.fin,.slice R1 b1 y1,.slice R2 b2 y2,.slice R3 b3 y3,.int .i64 right.aa] 97));have e1:(kind == 1)=false:=(by simpa using k1);have e2:(kind == 2)=false:=(by simpa using k2);have e3:(kind == 3)=false:=(by simpa using k3);have e4:(kind == 4)=false:=(by simpa using k4);clear k1 k2 k3 k4;go_enter Tryz.func84,Tryz.ntmps84;go_wp2_with fail;go_ret;exact⟨rfl,HB.out⟩
theorem Kx (name:ByteArray) (left right:cn) (dir:Int) (A:Option Addr) (n c:Nat) (L1 L2 L3 R1 R2 R3:Option Addr) (a1 a2 a3 x1 x2 x3 b1 b2 b3 y1 y2 y3:Nat) (w:World)  :
    Calls Tryz.prog 84 #[.agg #[.int .i64 4,.string name,.slice A n c,.int .i64 dir,.bool left.start,.bool left.fin,.slice L1 a1 x1,.slice L2 a2 x2,.slice L3 a3 x3,.int .i64 left.aa,.bool right.start,.bool right.fin,.slice R1 b1 y1,.slice R2 b2 y2,.slice R3 b3 y3,.int .i64 right.aa]] w fun e w'=>e=.returned (.int .i64 (if jZ name=true then 0 else 7))∧Below w.heap.size w w':=by
 have HB:=Lib.hid ((Below.refl w.heap.size w).alloc (Nat.le_refl _) (.cells #[.int .i64 4,.string name,.slice A n c,.int .i64 dir,.bool left.start,.bool left.fin,.slice L1 a1 x1,.slice L2 a2 x2,.slice L3 a3 x3,.int .i64 left.aa,.bool right.start,.bool right.fin,.slice R1 b1 y1,.slice R2 b2 y2,.slice R3 b3 y3,.int .i64 right.aa] 97));have c1:(w.alloc (.cells #[.int .i64 4,.string name,.slice A n c,.int .i64 dir,.bool left.start,.bool left.fin,.slice L1 a1 x1,.slice L2 a2 x2,.slice L3 a3 x3,.int .i64 left.aa,.bool right.start,.bool right.fin,.slice R1 b1 y1,.slice R2 b2 y2,.slice R3 b3 y3,.int .i64 right.aa] 97)).cell? ⟨w.heap.size,1,none⟩=some (.string name):=(ak.new _ _ _).cell 1;have hlt:w.heap.size<(w.alloc (.cells #[.int .i64 4,.string name,.slice A n c,.int .i64 dir,.bool left.start,.bool left.fin,.slice L1 a1 x1,.slice L2 a2 x2,.slice L3 a3 x3,.int .i64 left.aa,.bool right.start,.bool right.fin,.slice R1 b1 y1,.slice R2 b2 y2,.slice R3 b3 y3,.int .i64 right.aa] 97)).heap.size:=(by simp);cases hr:jZ name
 all_goals
   have HR:=Lib.hid hr
   clear hr
   go_enter Tryz.func84,Tryz.ntmps84
   go_wp2_with fail
   generalize w.alloc (.cells #[.int .i64 4,.string name,.slice A n c,.int .i64 dir,.bool left.start,.bool left.fin,.slice L1 a1 x1,.slice L2 a2 x2,.slice L3 a3 x3,.int .i64 left.aa,.bool right.start,.bool right.fin,.slice R1 b1 y1,.slice R2 b2 y2,.slice R3 b3 y3,.int .i64 right.aa] 97)=W0 at *
   go_region_with (first | (go_at_call 65;refine(iZ _).mono ?_;rintro e w' ⟨rfl,rfl⟩) | (go_at_call 64;refine(rQ _ name _ HR.out _ (Dy (ak.new _ _ _))).mono ?_;rintro e w' ⟨rfl,rfl⟩))
   all_goals
     go_wp2_with fail
     go_ret
     exact⟨rfl,below_drewN (HB.out.alloc HB.out.size _) _⟩
theorem si (p:aI) (A:Option Addr) (n c:Nat) (L1 L2 L3 R1 R2 R3:Option Addr) (a1 a2 a3 x1 x2 x3 b1 b2 b3 y1 y2 y3:Nat) (w:World) (hs:mX w w.heap.size A n p.set) (hn:n≤maxLen) (l1:bX w w.heap.size L1 a1 p.left.before) (l2:bX w w.heap.size L2 a2 p.left.source) (l3:bX w w.heap.size L3 a3 p.left.after) (BI:a1≤maxLen) (yI:a2≤maxLen) (Cv:a3≤maxLen) (r1:bX w w.heap.size R1 b1 p.right.before) (r2:bX w w.heap.size R2 b2 p.right.source) (r3:bX w w.heap.size R3 b3 p.right.after) (BP:b1≤maxLen) (yH:b2≤maxLen) (BD:b3≤maxLen)  :
    Calls Tryz.prog 84 #[.agg #[.int .i64 p.kind,.string p.name,.slice A n c,.int .i64 p.dir,.bool p.left.start,.bool p.left.fin,.slice L1 a1 x1,.slice L2 a2 x2,.slice L3 a3 x3,.int .i64 p.left.aa,.bool p.right.start,.bool p.right.fin,.slice R1 b1 y1,.slice R2 b2 y2,.slice R3 b3 y3,.int .i64 p.right.aa]] w fun e w'=>e=.returned (.int .i64 (gX p))∧Below w.heap.size w w':=by
 obtain⟨kind,name,set,dir,left,right⟩:=p;dsimp only at *;unfold gX;dsimp only;by_cases k1:kind=1
 ·subst k1;rw [if_pos rfl];exact Oy name set left right dir A n c L1 L2 L3 R1 R2 R3 a1 a2 a3 x1 x2 x3 b1 b2 b3 y1 y2 y3 w hs (by unfold maxLen at hn;omega)
 by_cases k3:kind=3
 ·subst k3;rw [if_neg k1,if_pos rfl];exact EK name set left right dir A n c L1 L2 L3 R1 R2 R3 a1 a2 a3 x1 x2 x3 b1 b2 b3 y1 y2 y3 w hs (by unfold maxLen at hn;omega)
 by_cases k4:kind=4
 ·subst k4;rw [if_neg k1,if_neg k3,if_pos rfl];exact Kx name left right dir A n c L1 L2 L3 R1 R2 R3 a1 a2 a3 x1 x2 x3 b1 b2 b3 y1 y2 y3 w
 by_cases k2:kind=2
 ·subst k2;rw [if_neg k1,if_neg k3,if_neg k4,if_pos rfl];by_cases hd:dir<1∨3<dir
  ·have e:cW dir left right=1:=if_pos hd;rw [e];exact Oc name left right dir A n c L1 L2 L3 R1 R2 R3 a1 a2 a3 x1 x2 x3 b1 b2 b3 y1 y2 y3 w hd
  rcases (show dir=1∨dir=2∨dir=3 by omega)with rfl | rfl | rfl;exact GV name left right A n c L1 L2 L3 R1 R2 R3 a1 a2 a3 x1 x2 x3 b1 b2 b3 y1 y2 y3 w l1 l2 l3 BI yI Cv r1 r2 r3 BP yH BD;exact GP name left right A n c L1 L2 L3 R1 R2 R3 a1 a2 a3 x1 x2 x3 b1 b2 b3 y1 y2 y3 w l1 l2 l3 BI yI Cv r1 r2 r3 BP yH BD;exact GR name left right A n c L1 L2 L3 R1 R2 R3 a1 a2 a3 x1 x2 x3 b1 b2 b3 y1 y2 y3 w l1 l2 l3 BI yI Cv r1 r2 r3 BP yH BD
 rw [if_neg k1,if_neg k3,if_neg k4,if_neg k2];exact FN name left right kind dir A n c L1 L2 L3 R1 R2 R3 a1 a2 a3 x1 x2 x3 b1 b2 b3 y1 y2 y3 w k1 k2 k3 k4
theorem qb (A:Option Addr) (n c:Nat) (l:List aI) (w:World) (hn:n≤maxLen) (hl:EN w w.heap.size A n l) :
    Calls Tryz.prog 85 #[.slice A n c] w fun e w'=>e=.returned (.agg #[.int .i64 (fJ l).1,.int .i64 (fJ l).2])∧Below w.heap.size w w':=by
 have aY:=Lib.hid (kD.len hl);have HL:=Lib.hid hl;have hn2:n≤9223372036854775807:=(by unfold maxLen at hn;omega);clear hl hn;by_cases h20:200<n
 ·have HP:=Lib.hid (show fJ l=(5,0) by unfold fJ;rw [if_pos (by rw [aY.out];exact h20)]);go_enter Tryz.func85,Tryz.ntmps85;go_wp2_with fail;rw [HP.out];exact bodyPost_ret (v:=.agg #[.int .i64 5,.int .i64 0]) (by simp [results,Tryz.results85,go_sem]) rfl ⟨rfl,(Below.refl _ _).alloc (Nat.le_refl _) _⟩
 have HP:=Lib.hid (show fJ l=lW 0 l by unfold fJ;rw [if_neg (by rw [aY.out];exact h20)]);go_enter Tryz.func85,Tryz.ntmps85;go_wp2_with fail;go_loopw [12] (VF w l n) (fun i _=>n - (intOf i).toNat);(case atStart=>exact⟨0,Nat.zero_le _,rfl,rfl,ak.new _ _ _,(Below.refl _ _).alloc (Nat.le_refl _) _⟩);obtain⟨k,hk,rfl,bf,hres,hb⟩:=hrel;have hz:=hb.size;have agB:=hres.lt;by_cases hlt:k<n
 ·obtain⟨p,hp⟩:∃ z,l[k]? = some z:=⟨_,List.getElem?_eq_getElem (by rw [aY.out];exact hlt)⟩;rw [dN hp,lW]at bf;obtain⟨b,off,A',n',c',L1,L2,L3,R1,R2,R3,a1,a2,a3,x1,x2,x3,b1,b2,b3,y1,y2,y3,rfl,dL,⟨f0,f1,f2,f3,f4,f5,f6,f7,f8,f9,f10,f11,f12,f13,f14,f15⟩,hs,hn',l1,l2,l3,BI,yI,Cv,r1,r2,r3,BP,yH,BD,cl,cr,hm⟩:=I0 HL.out hp;have d0:=(hb.cell (p:=⟨b,off+k*16,none⟩) dL).trans f0;have d1:=(hb.cell (p:=⟨b,off+k*16+1,none⟩) dL).trans f1;have d2:=(hb.cell (p:=⟨b,off+k*16+2,none⟩) dL).trans f2;have d3:=(hb.cell (p:=⟨b,off+k*16+3,none⟩) dL).trans f3;have d4:=(hb.cell (p:=⟨b,off+k*16+4,none⟩) dL).trans f4;have d5:=(hb.cell (p:=⟨b,off+k*16+5,none⟩) dL).trans f5;have d6:=(hb.cell (p:=⟨b,off+k*16+6,none⟩) dL).trans f6;have d7:=(hb.cell (p:=⟨b,off+k*16+7,none⟩) dL).trans f7;have d8:=(hb.cell (p:=⟨b,off+k*16+8,none⟩) dL).trans f8;have d9:=(hb.cell (p:=⟨b,off+k*16+9,none⟩) dL).trans f9;have d10:=(hb.cell (p:=⟨b,off+k*16+10,none⟩) dL).trans f10;have d11:=(hb.cell (p:=⟨b,off+k*16+11,none⟩) dL).trans f11;have d12:=(hb.cell (p:=⟨b,off+k*16+12,none⟩) dL).trans f12;have d13:=(hb.cell (p:=⟨b,off+k*16+13,none⟩) dL).trans f13;have d14:=(hb.cell (p:=⟨b,off+k*16+14,none⟩) dL).trans f14;have d15:=(hb.cell (p:=⟨b,off+k*16+15,none⟩) dL).trans f15;have HI:=Lib.hid (fun w' (hw:Below w.heap.size w w')=>si p A' n' c' L1 L2 L3 R1 R2 R3 a1 a2 a3 x1 x2 x3 b1 b2 b3 y1 y2 y3 w' (Rd.more (Rd.below hs hw) hw.size) hn' (aP l1 hw) (aP l2 hw) (aP l3 hw) BI yI Cv (aP r1 hw) (aP r2 hw) (aP r3 hw) BP yH BD);clear f0 f1 f2 f3 f4 f5 f6 f7 f8 f9 f10 f11 f12 f13 f14 f15 hs hn' l1 l2 l3 BI yI Cv r1 r2 r3 BP yH BD cl cr hm
  have bT:=Lib.hid (hb.alloc hz (.cells #[.int .i64 p.kind,.string p.name,.slice A' n' c',.int .i64 p.dir,.bool p.left.start,.bool p.left.fin,.slice L1 a1 x1,.slice L2 a2 x2,.slice L3 a3 x3,.int .i64 p.left.aa,.bool p.right.start,.bool p.right.fin,.slice R1 b1 y1,.slice R2 b2 y2,.slice R3 b3 y3,.int .i64 p.right.aa] 97));have OW:=Lib.hid (hres.alloc (.cells #[.int .i64 p.kind,.string p.name,.slice A' n' c',.int .i64 p.dir,.bool p.left.start,.bool p.left.fin,.slice L1 a1 x1,.slice L2 a2 x2,.slice L3 a3 x3,.int .i64 p.left.aa,.bool p.right.start,.bool p.right.fin,.slice R1 b1 y1,.slice R2 b2 y2,.slice R3 b3 y3,.int .i64 p.right.aa] 97));by_cases hi:gX p=0
  ·rw [if_pos hi]at bf;have HG:=Lib.hid bf;clear bf hres;go_wp2_with fail;refine(HI.out _ bT.out).mono ?_;rintro e w2 ⟨rfl,aL⟩;rw [hi];have hk2:=ak.below OW.out aL OW.out.lt;have bQ:=bT.out.trans (aL.mono bT.out.size);have HK3:=Lib.hid hk2;have bW:=Lib.hid bQ;clear aL bQ hk2;go_wp2_with fail;exact⟨⟨k+1,by omega,by go_num,HG.out,HK3.out,bW.out⟩,by simp [intOf];omega⟩
  rw [if_neg hi]at bf;have hi2:(gX p != 0)=true:=(by simpa using hi);have HG:=Lib.hid bf;clear bf hres hi;go_wp2_with fail;refine(HI.out _ bT.out).mono ?_;rintro e w2 ⟨rfl,aL⟩;have hk2:=ak.below OW.out aL OW.out.lt;have bQ:=bT.out.trans (aL.mono bT.out.size);have q0:w2.cell? ⟨w.heap.size,0,none⟩=some (.int .i64 0):=hk2.cell 0;have q1:w2.cell? ⟨w.heap.size,1,none⟩=some (.int .i64 0):=hk2.cell 1;have q2:=hk2.frozen 0;have q3:=hk2.frozen 1;have bW:=Lib.hid bQ;clear aL bQ hk2;go_wp2_with fail;rw [HP.out,HG.out];exact bodyPost_ret (v:=.agg #[.int .i64 (gX p),.int .i64 k]) (by simp [results,Tryz.results85,go_sem,q0,q1]) rfl ⟨rfl,(bW.out.setCell (by simp) _).setCell (by simp) _⟩
 obtain rfl:k=n:=(by omega);rw [List.drop_of_length_le (by rw [aY.out];omega)]at bf;have HG:=Lib.hid (bf.trans (show lW k [] =(0,0) from rfl));have q0:wr.cell? ⟨w.heap.size,0,none⟩=some (.int .i64 0):=hres.cell 0;have q1:wr.cell? ⟨w.heap.size,1,none⟩=some (.int .i64 0):=hres.cell 1;have q2:=hres.frozen 0;have q3:=hres.frozen 1;clear bf hres;go_wp2_with fail;rw [HP.out,HG.out];exact bodyPost_ret (v:=.agg #[.int .i64 0,.int .i64 0]) (by simp [results,Tryz.results85,go_sem,q0,q1]) rfl ⟨rfl,(hb.setCell (by simp) _).setCell (by simp) _⟩
def qP (r:Int):Bool:=decide (0≤r) && !decide (r=10)
def eZ (L:List Int):Nat→Nat→Nat
  | 0,i=>aQ L i
  | f+1,i=>if pk L (aQ L i)=35 then eZ L f (aA qP L (aQ L i))else aQ L i
def az (L:List Int) (i:Nat):Nat:=eZ L (L.length+1) i
def kB (r:Int):Bool:=(decide (97≤r) && decide (r≤122)) || decide (r=95)
def Bs (r:Int):Bool:=decide (48≤r) && decide (r≤57)
def aX (L:List Int) (i:Nat):Nat:=if kB (pk L i)=true then aA (fun r=>kB r || Bs r) L i else i
def ic (L:List Int) (i:Nat):ByteArray:=runesBytes (aO L i (aX L i))
def gG (L:List Int) (i:Nat):kf ByteArray:=if ep (ic L i)=true then .ok (ic L i,aX L i)else .error (7,i)
def lC (r:Int):Bool:=decide (0≤r) && !decide (r=39)
def eG:ByteArray:=⟨#[]⟩
def mH (x:Int):aG:=⟨1,x,[],eG⟩
def gv (L:List Int) (i:Nat):kf (List aG) :=
  if pk L (aA lC L (i+1))=39 then .ok ((aO L (i+1) (aA lC L (i+1))).map mH,aA lC L (i+1)+1)else .error (2,aA lC L (i+1))
def cA (L:List Int) (a:Nat) (out:List aG) (cur:Int):Except (Int × Nat) (Option ((List aG × Int) × Nat)) :=
  if pk L a=124 then (if 0≤cur then .error (5,a)else .ok (some ((out,(out.length:Int)),a+1)))
  else if pk L a=91 then match bD L 20 a with | .error e=>.error e | .ok (s,j)=>.ok (some ((out++[⟨2,0,s,eG⟩],cur),j))
  else if pk L a=36∧kB (pk L (a+1))=true then match gG L (a+1)with | .error e=>.error e | .ok (s,j)=>.ok (some ((out++[⟨3,0,[],s⟩],cur),j))
  else if pk L a=39 then match gv L a with | .error e=>.error e | .ok (l,j)=>.ok (some ((out++l,cur),j))
  else if pk L a=92∨cY (pk L a)=true then match cX L a with | .error e=>.error e | .ok (x,j)=>if aK x=true then .ok (some ((out++[mH x],cur),j))else .error (3,a)
  else .ok none
def cK (L:List Int):Nat→Nat→List aG→Int→kf (List aG × Int)
  | 0,i,_,_=>.error (2,i)
  | f+1,i,out,cur=>match cA L (az L i) out cur with
    | .error e=>.error e
    | .ok none=>.ok ((out,cur),az L i)
    | .ok (some ((o,c),j))=>if 20<o.length then .error (5,az L i)else cK L f j o c
def cH (L:List Int) (i:Nat):kf (List aG × Int):=cK L (L.length+1) i [] (-1)
def dQ (L:List Int) (start:Bool) (a:Nat):kf (List aG × List aG × Int) :=
  match cH L a with
  | .error e=>.error e
  | .ok ((l,c),j)=>
    if pk L j=123 then (if 0≤c then .error (8,a)else match cH L (j+1)with | .error e=>.error e | .ok ((l2,c2),j2)=>.ok ((l,l2,c2),j2))
    else if start=true then .error (2,j)else .ok (([],l,c),j)
def eu (L:List Int) (j:Nat):kf (List aG × Bool) :=
  if pk L j=125 then match cH L (j+1)with
    | .error e=>.error e
    | .ok ((l,c),k)=>if 0≤c then .error (8,j+1)else if pk L k=36 then .ok ((l,true),k+1)else .ok ((l,false),k)
  else .ok (([],false),j)
def dJ (L:List Int) (i:Nat):kf cn :=
  match dQ L (decide (pk L (az L i)=94)) (if pk L (az L i)=94 then az L i+1 else az L i)with
  | .error e=>.error e
  | .ok ((b,s,c),j)=>match eu L j with
    | .error e=>.error e
    | .ok ((a,fin),k)=>.ok (⟨decide (pk L (az L i)=94),fin,b,s,a,c⟩,az L k)
def eU (L:List Int) (i:Nat):kf Int :=
  if pk L i=62 then .ok (1,i+1)else if pk L i=60∧pk L (i+1)=62 then .ok (3,i+2)
  else match aU L i 60 with | .error e=>.error e | .ok j=>.ok (2,j)
def dH:cn:=⟨false,false,[],[],[],0⟩
def jM (L:List Int) (i:Nat):kf aI :=
  match dJ L i with
  | .error e=>.error e
  | .ok (l,j)=>match eU L j with
    | .error e=>.error e
    | .ok (d,k)=>match dJ L k with
      | .error e=>.error e
      | .ok (r,m)=>if gX ⟨2,eG,[],d,l,r⟩≠0 then .error (gX ⟨2,eG,[],d,l,r⟩,i)else .ok (⟨2,eG,[],d,l,r⟩,m)
def jx (L:List Int) (i:Nat):kf aI :=
  match aU L (i+1) 58 with
  | .error e=>.error e
  | .ok j=>
    if pk L (az L j)=91 then match bD L 20 (az L j)with | .error e=>.error e | .ok (s,k)=>.ok (⟨3,eG,s,0,dH,dH⟩,k)
    else if jZ (ic L (az L j))=true then .ok (⟨4,ic L (az L j),[],0,dH,dH⟩,aX L (az L j))else .error (7,az L j)
def pS (L:List Int) (i:Nat):kf aI :=
  match gG L (i+1)with
  | .error e=>.error e
  | .ok (s,j)=>match aU L (az L j) 61 with
    | .error e=>.error e
    | .ok k=>match bD L 20 (az L k)with | .error e=>.error e | .ok (t,m)=>.ok (⟨1,s,t,0,dH,dH⟩,m)
def j4 (L:List Int) (i:Nat):kf aI :=
  if pk L i=58 then jx L i
  else if pk L i=36∧pk L (az L (aX L (i+1)))=61 then pS L i
  else jM L i
def iK (L:List Int):Nat→Nat→List aI→Except (Int × Nat) (List aI)
  | 0,i,_=>.error (2,i)
  | f+1,i,l=>
    if pk L (az L i)<0 then .ok l
    else if l.length=200 then .error (5,az L i)
    else match j4 L (az L i)with
      | .error e=>.error e
      | .ok (p,j)=>match aU L (az L j) 59 with
        | .error e=>.error e
        | .ok k=>iK L f k (l++[p])
def ia (L:List Int):List aI × (Int × Int) :=
  if 16000<L.length then ([],(4,0))
  else match iK L (L.length+1) 0 []with
    | .error (e,p)=>([],(e,(p:Int)))
    | .ok l=>(l,(0,0))
theorem JI (L:List Int):∀ f i,i≤eZ L f i:=by
 intro f;induction f with
 | zero=>exact fun i=>ey L i
 | succ f ih=>
  intro i;rw [eZ];split;exact Nat.le_trans (ey L i) (Nat.le_trans (eP _ _ _) (ih _));exact ey L i
theorem sS {L:List Int} {i:Nat} (h:i≤L.length):aQ L i≤L.length:=(iD h).2
theorem KD (L:List Int):∀ f i,i≤L.length→eZ L f i≤L.length:=by
 intro f;induction f with
 | zero=>exact fun i h=>sS h
 | succ f ih=>
  intro i h;rw [eZ];split;exact ih _ (iD (sS h)).2;exact sS h
theorem dA (L:List Int) (i:Nat):i≤az L i:=JI L _ i
theorem pG {L:List Int} {i:Nat} (h:i≤L.length):az L i≤L.length:=KD L _ i h
theorem xz (L:List Int) (i:Nat):i≤aX L i:=by
 unfold aX;split;exact eP _ _ _;exact Nat.le_refl _
theorem kM {L:List Int} {i:Nat} (h:i≤L.length):aX L i≤L.length:=by
 unfold aX;split;exact(iD h).2;exact h
theorem mU {L:List Int} {i j:Nat} {s:ByteArray} (h:gG L i=.ok (s,j)):i<j∧ep s=true∧s=ic L i∧j=aX L i:=by
 unfold gG at h;split at h
 ·rename_i hn;injection h with h;injection h with h1 h2;subst h1 h2;refine⟨?_,hn,rfl,rfl⟩;rcases Nat.lt_or_ge i (aX L i)with hl | hl;exact hl;have he:aX L i=i:=Nat.le_antisymm hl (xz L i);have ht:ic L i=runesBytes []:=by
   unfold ic aO;rw [he,Nat.sub_self];rfl
  rw [ht]at hn;exact absurd hn (by unfold ep;simp [show(runesBytes []).size=0 from rfl])
 cases h
theorem xp {L:List Int} {i j:Nat} {l:List aG} (h:gv L i=.ok (l,j)):i+1<j∧j≤L.length:=by
 unfold gv at h;split at h
 ·rename_i hn;injection h with h;injection h with h1 h2;have hlt:=bw (L:=L) (i:=aA lC L (i+1)) (by omega);have:=eP lC L (i+1);omega
 cases h
theorem xw {L:List Int} (hL:dc L) {a j:Nat} {out o:List aG} {cur c:Int} (h:cA L a out cur=.ok (some ((o,c),j))):a<j∧out.length≤o.length:=by
 unfold cA at h;split at h
 ·split at h
  ·cases h
  injection h with h;injection h with h;injection h with h1 h2;injection h1 with h1 h3;subst h1 h2;exact⟨by omega,Nat.le_refl _⟩
 split at h
 ·split at h
  ·cases h
  rename_i s j' hs;injection h with h;injection h with h;injection h with h1 h2;injection h1 with h1 h3;subst h1 h2;exact⟨(oL hL 20 _ _ _ hs).1,by simp⟩
 split at h
 ·split at h
  ·cases h
  rename_i s j' hs;injection h with h;injection h with h;injection h with h1 h2;injection h1 with h1 h3;subst h1 h2;have:=(mU hs).1;exact⟨by omega,by simp⟩
 split at h
 ·split at h
  ·cases h
  rename_i s j' hs;injection h with h;injection h with h;injection h with h1 h2;injection h1 with h1 h3;subst h1 h2;have:=(xp hs).1;exact⟨by omega,by simp⟩
 split at h
 ·split at h
  ·cases h
  rename_i x j' hs;split at h
  ·injection h with h;injection h with h;injection h with h1 h2;injection h1 with h1 h3;subst h1 h2;exact⟨(oz hL hs).1,by simp⟩
  cases h
 injection h with h;cases h
structure Jx (p:Nat) (L L':List Int):Prop where
  here:∀ k,k<L.length→L'[p+k]? = L[k]?
  stop:pk L' (p+L.length)=10∨pk L' (p+L.length)=32∨pk L' (p+L.length) = -1
def KK {α:Type} (p:Nat) (L:List Int) (r r':kf α):Prop:=∀ v j,r=.ok (v,j)→j≤L.length∧r'=.ok (v,p+j)
section
variable {p : Nat} {L L' : List Int} (E : Jx p L L')
include E
theorem Jx.pk {k:Nat} (hk:k<L.length):pk L' (p+k)=pk L k:=by
 unfold Go.Proofs.YtapechjebkjidaaGreatDoor.pk;rw [E.here k hk]
theorem Jx.is {k:Nat} (hk:k≤L.length) {r:Int} (h1:r≠10) (h2:r ≠ -1) (h3:r≠32):Go.Proofs.YtapechjebkjidaaGreatDoor.pk L' (p+k)=r↔Go.Proofs.YtapechjebkjidaaGreatDoor.pk L k=r:=by
 rcases Nat.lt_or_ge k L.length with hl | hl
 ·rw [E.pk hl]
 have hk:k=L.length:=(by omega);subst hk;rw [qw (Nat.le_refl _)];rcases E.stop with e | e | e <;> rw [e] <;> constructor <;> intro h' <;> omega
theorem Jx.lt {k:Nat} (hk:k<L.length):p+k<L'.length:=by
 have:=E.here k hk;rw [List.getElem?_eq_getElem hk]at this;exact(List.getElem?_eq_some_iff.1 this).1
theorem Jx.len:L.length≤L'.length:=by
 rcases Nat.eq_zero_or_pos L.length with h | h;omega;have:=E.lt (k:=L.length - 1) (by omega);omega
theorem Jx.run {q:Int→Bool}:∀ (d i:Nat),L.length - i=d→i≤L.length→(aA q L i<L.length∨q (Go.Proofs.YtapechjebkjidaaGreatDoor.pk L' (p+L.length))=false)→aA q L' (p+i)=p+aA q L i:=by
 intro d;induction d with
 | zero=>
  intro i hd hi hq;have e:i=L.length:=(by omega);subst e;have e2:aA q L L.length=L.length:=cQ (fun h=>absurd h (Nat.lt_irrefl _));rw [e2]at hq ⊢;rcases hq with hq | hq;omega;exact cQ (fun _=>hq)
 | succ d ih=>
  intro i hd hi hq;have hl:i<L.length:=(by omega);cases hv:q (Go.Proofs.YtapechjebkjidaaGreatDoor.pk L i)with
  | true=>
   rw [dU hl hv]at hq ⊢;rw [dU (E.lt hl) (by rw [E.pk hl];exact hv),Nat.add_assoc];exact ih (i+1) (by omega) (by omega) hq
  | false=>rw [cQ (fun _=>hv),cQ (fun _=>by rw [E.pk hl];exact hv)]
theorem Jx.Tz {q:Int→Bool} (h1:q 10=false) (h2:q 32=false) (h3:q (-1)=false) {i:Nat} (hi:i≤L.length):aA q L' (p+i)=p+aA q L i:=by
 refine E.run _ i rfl hi (.inr ?_);rcases E.stop with e | e | e <;> rw [e] <;> assumption
theorem Jx.skip {i:Nat} (hi:i≤L.length) (h:aQ L i<L.length):aQ L' (p+i)=p+aQ L i:=E.run _ i rfl hi (.inl h)
theorem Jx.text {i j:Nat} (hj:j≤L.length):aO L' (p+i) (p+j)=aO L i j:=by
 unfold aO;rw [show p+j - (p+i)=j - i by omega];apply List.ext_getElem?;intro k;rcases Nat.lt_or_ge k (j - i)with hk | hk
 ·rw [List.getElem?_take_of_lt hk,List.getElem?_take_of_lt hk,List.getElem?_drop,List.getElem?_drop,Nat.add_assoc];exact E.here _ (by omega)
 rw [List.getElem?_take_eq_none hk,List.getElem?_take_eq_none hk]
theorem jy {i j:Nat} {r:Int} (h:aU L i r=.ok j) (hr:r ≠ -1):j≤L.length∧aU L' (p+i) r=.ok (p+j):=by
 obtain⟨rfl,hp⟩:=fZ h;have hl:i<L.length:=bw (by rw [hp];exact hr);refine⟨hl,?_⟩;rw [L6 (by rw [E.pk hl];exact hp)];rfl
theorem PT (i:Nat):KK p L (kO L i) (kO L' (p+i)):=by
 intro v j h;unfold kO at h ⊢;cases h1:aU L (i+1) 123 with
 | error e=>rw [h1]at h;cases h
 | ok a=>
  obtain⟨ha,e1⟩:=jy E h1 (by decide);rw [h1]at h;rw [show p+i+1=p+(i+1) from rfl,e1];simp only at h ⊢;rw [E.Tz rfl rfl rfl ha,show p+aA eV L a - (p+a)=aA eV L a - a by omega];by_cases hn:aA eV L a - a<1∨6<aA eV L a - a
  ·rw [if_pos hn]at h;cases h
  rw [if_neg hn]at h ⊢;cases h2:aU L (aA eV L a) 125 with
  | error e=>rw [h2]at h;cases h
  | ok b=>
   obtain⟨hb,e2⟩:=jy E h2 (by decide);rw [h2]at h;rw [e2];simp only at h ⊢;rw [E.text (iD ha).2];by_cases hm:1114111<ew (aO L a (aA eV L a))
   ·rw [if_pos hm]at h;cases h
   rw [if_neg hm]at h ⊢;injection h with h;injection h with h3 h4;subst h3 h4;exact⟨hb,rfl⟩
theorem yz (i:Nat):KK p L (cX L i) (cX L' (p+i)):=by
 intro v j h;unfold cX at h ⊢;by_cases hp:cY (Go.Proofs.YtapechjebkjidaaGreatDoor.pk L i)=true
 ·have hl:i<L.length:=bw (fun e=>by rw [e]at hp;exact absurd hp (by decide));rw [if_pos hp]at h;rw [E.pk hl,if_pos hp];injection h with h;injection h with h3 h4;subst h3 h4;exact⟨hl,rfl⟩
 rw [if_neg hp]at h;by_cases yE:Go.Proofs.YtapechjebkjidaaGreatDoor.pk L i≠92
 ·rw [if_pos yE]at h;cases h
 rw [if_neg yE]at h;have hl:i<L.length:=bw (by omega);rw [E.pk hl,if_neg hp,if_neg yE];have nV:i+1<L.length:=bw (fun e=>by rw [e]at h;simp at h);rw [show p+i+1=p+(i+1) from rfl,E.pk nV];by_cases c1:Go.Proofs.YtapechjebkjidaaGreatDoor.pk L (i+1)=110
 ·rw [if_pos c1]at h ⊢;injection h with h;injection h with h3 h4;subst h3 h4;exact⟨nV,rfl⟩
 rw [if_neg c1]at h ⊢;by_cases c2:Go.Proofs.YtapechjebkjidaaGreatDoor.pk L (i+1)=116
 ·rw [if_pos c2]at h ⊢;injection h with h;injection h with h3 h4;subst h3 h4;exact⟨nV,rfl⟩
 rw [if_neg c2]at h ⊢;by_cases c3:Go.Proofs.YtapechjebkjidaaGreatDoor.pk L (i+1)=117
 ·rw [if_pos c3]at h ⊢;exact PT E _ _ _ h
 rw [if_neg c3]at h ⊢;by_cases c4:Go.Proofs.YtapechjebkjidaaGreatDoor.pk L (i+1)<0∨GO (Go.Proofs.YtapechjebkjidaaGreatDoor.pk L (i+1))=true
 ·rw [if_pos c4]at h;cases h
 rw [if_neg c4]at h ⊢;injection h with h;injection h with h3 h4;subst h3 h4;exact⟨nV,rfl⟩
theorem Om (i:Nat):KK p L (jz L i) (jz L' (p+i)):=by
 intro v j h;unfold jz at h ⊢;cases h1:cX L i with
 | error e=>rw [h1]at h;cases h
 | ok q=>
  obtain⟨low,a⟩:=q;obtain⟨ha,e1⟩:=yz E _ _ _ h1;rw [h1]at h;rw [e1];simp only at h ⊢;have c1:(Go.Proofs.YtapechjebkjidaaGreatDoor.pk L' (p+a)=45∧Go.Proofs.YtapechjebkjidaaGreatDoor.pk L' (p+a+1)≠91)↔(Go.Proofs.YtapechjebkjidaaGreatDoor.pk L a=45∧Go.Proofs.YtapechjebkjidaaGreatDoor.pk L (a+1)≠91):=by
   rw [E.is ha (by decide) (by decide) (by decide)];refine and_congr_right (fun S8=>?_);have hl:a<L.length:=bw (by omega);exact not_congr (E.is (k:=a+1) hl (by decide) (by decide) (by decide))
  by_cases hc:Go.Proofs.YtapechjebkjidaaGreatDoor.pk L a=45∧Go.Proofs.YtapechjebkjidaaGreatDoor.pk L (a+1)≠91
  ·rw [if_pos hc]at h;rw [if_pos (c1.2 hc)];cases h2:cX L (a+1)with
   | error e=>rw [h2]at h;cases h
   | ok q=>
    obtain⟨high,b⟩:=q;obtain⟨hb,e2⟩:=yz E _ _ _ h2;rw [h2]at h;rw [show p+a+1=p+(a+1) from rfl,e2];simp only at h ⊢;by_cases hh:high<low
    ·rw [if_pos hh]at h;cases h
    rw [if_neg hh]at h ⊢;injection h with h;injection h with h3 h4;subst h3 h4;exact⟨hb,rfl⟩
  rw [if_neg hc]at h;rw [if_neg (fun x=>hc (c1.1 x))];injection h with h;injection h with h3 h4;subst h3 h4;exact⟨ha,rfl⟩
theorem JQ {i:Nat} (hi:i+2≤L.length):KK p L (eS L i) (eS L' (p+i)):=by
 intro v j h;unfold eS at h ⊢;rw [show p+i+2=p+(i+2) from rfl,E.Tz rfl rfl rfl hi,E.text (iD hi).2];cases h0:gT (aO L (i+2) (aA cY L (i+2)))with
 | none=>rw [h0]at h;cases h
 | some s=>
  rw [h0]at h;simp only at h ⊢;cases h1:aU L (aA cY L (i+2)) 58 with
  | error e=>rw [h1]at h;cases h
  | ok a=>
   obtain⟨ha,e1⟩:=jy E h1 (by decide);rw [h1]at h;rw [e1];simp only at h ⊢;cases h2:aU L a 93 with
   | error e=>rw [h2]at h;cases h
   | ok b=>
    obtain⟨hb,e2⟩:=jy E h2 (by decide);rw [h2]at h;rw [e2];simp only at h ⊢;injection h with h;injection h with h3 h4;subst h3 h4;exact⟨hb,rfl⟩
def Sy (p:Nat) (L:List Int) (inner inner':Nat→kf af):Prop:=∀ i s j,inner i=.ok (s,j)→i<j∧j≤L.length∧inner' (p+i)=.ok (s,p+j)
theorem Mh {inner inner':Nat→kf af} (hI:Sy p L inner inner') (i:Nat) (s:af) (j:Nat) (h:dw inner L i=.ok (s,j)):i<L.length∧j≤L.length∧dw inner' L' (p+i)=.ok (s,p+j):=by
 have hl:i<L.length:=by
  refine bw (fun e=>?_);unfold dw at h;rw [if_neg (fun x=>by have:=x.1;omega),if_neg (by omega),if_neg (by omega)]at h;unfold jz cX at h;rw [e]at h;simp [cY]at h
 refine⟨hl,?_⟩;unfold dw at h ⊢;rw [E.pk hl,show p+i+1=p+(i+1) from rfl];have c1:=E.is (k:=i+1) hl (r:=58) (by decide) (by decide) (by decide);by_cases hc:Go.Proofs.YtapechjebkjidaaGreatDoor.pk L i=91∧Go.Proofs.YtapechjebkjidaaGreatDoor.pk L (i+1)=58
 ·rw [if_pos hc]at h;rw [if_pos ⟨hc.1,c1.2 hc.2⟩];have nV:i+1<L.length:=bw (by omega);exact JQ E nV _ _ h
 rw [if_neg hc]at h;rw [if_neg (fun x=>hc ⟨x.1,c1.1 x.2⟩)];by_cases lg:Go.Proofs.YtapechjebkjidaaGreatDoor.pk L i=91
 ·rw [if_pos lg]at h ⊢;exact(hI _ _ _ h).2
 rw [if_neg lg]at h ⊢;by_cases RO:Go.Proofs.YtapechjebkjidaaGreatDoor.pk L i=38∨Go.Proofs.YtapechjebkjidaaGreatDoor.pk L i=45
 ·rw [if_pos RO]at h ⊢;obtain⟨g1,g2,g3⟩:=hI _ _ _ h;rw [E.skip (i:=i+1) hl (by omega)];exact⟨g2,g3⟩
 rw [if_neg RO]at h ⊢;cases h1:jz L i with
 | error e=>rw [h1]at h;cases h
 | ok q=>
  obtain⟨x,a⟩:=q;obtain⟨ha,e1⟩:=Om E _ _ _ h1;rw [h1]at h;rw [e1];simp only at h ⊢;injection h with h;injection h with h3 h4;subst h3 h4;exact⟨ha,rfl⟩
theorem JL {inner inner':Nat→kf af} (hI:Sy p L inner inner'):∀ (f f' i:Nat) (cur s:af) (j:Nat),f≤f'→i≤L.length→dV inner L f i cur=.ok (s,j)→j≤L.length∧dV inner' L' f' (p+i) cur=.ok (s,p+j):=by
 intro f;induction f with
 | zero=>intro f' i cur s j _ _ h;unfold dV at h;cases h
 | succ f ih=>
  intro f' i cur s j hf hi h;obtain⟨f',rfl⟩:∃ g,f'=g+1:=⟨f' - 1,by omega⟩;rw [dV]at h ⊢;by_cases P8:Go.Proofs.YtapechjebkjidaaGreatDoor.pk L (aQ L i)=93
  ·have hl:aQ L i<L.length:=bw (by omega);rw [if_pos P8]at h;rw [E.skip hi hl,E.pk hl,if_pos P8];injection h with h;injection h with h3 h4;subst h3 h4;exact⟨hl,rfl⟩
  rw [if_neg P8]at h;cases h1:dw inner L (aQ L i)with
  | error e=>rw [h1]at h;cases h
  | ok q=>
   obtain⟨t,a⟩:=q;obtain⟨hl,ha,e1⟩:=Mh E hI _ _ _ h1;rw [h1]at h;rw [E.skip hi hl,E.pk hl,if_neg P8,e1];simp only at h ⊢;by_cases hw:(nR (vJ (Go.Proofs.YtapechjebkjidaaGreatDoor.pk L (aQ L i))) cur t).2≠0
   ·rw [if_pos hw]at h;cases h
   rw [if_neg hw]at h ⊢;exact ih f' a _ _ _ (by omega) ha h
theorem Cr (hL:dc L):∀ n,Sy p L (bD L n) (bD L' n):=by
 intro n;induction n with
 | zero=>intro i s j h;unfold bD at h;cases h
 | succ n ih=>
  intro i s j h;refine⟨(oL hL (n+1) i s j h).1,?_⟩;rw [bD]at h ⊢;cases h1:aU L i 91 with
  | error e=>rw [h1]at h;cases h
  | ok a=>
   obtain⟨ha,e1⟩:=jy E h1 (by decide);rw [h1]at h;rw [e1];simp only at h ⊢;have c1:=E.is ha (r:=94) (by decide) (by decide) (by decide);have hst:(if Go.Proofs.YtapechjebkjidaaGreatDoor.pk L' (p+a)=94 then p+a+1 else p+a)=p+(if Go.Proofs.YtapechjebkjidaaGreatDoor.pk L a=94 then a+1 else a):=by
    by_cases oe:Go.Proofs.YtapechjebkjidaaGreatDoor.pk L a=94
    ·rw [if_pos oe,if_pos (c1.2 oe)];rfl
    rw [if_neg oe,if_neg (fun x=>oe (c1.1 x))]
   rw [hst];have SB:(if Go.Proofs.YtapechjebkjidaaGreatDoor.pk L a=94 then a+1 else a)≤L.length:=by
    split
    ·rename_i oe;exact bw (by omega)
    exact ha
   cases h2:dV (bD L n) L (L.length+1) (if Go.Proofs.YtapechjebkjidaaGreatDoor.pk L a=94 then a+1 else a) []with
   | error e=>rw [h2]at h;cases h
   | ok q=>
    obtain⟨cur,k⟩:=q;obtain⟨hk,e2⟩:=JL E ih _ (L'.length+1) _ _ _ _ (by have:=E.len;omega) SB h2;rw [h2]at h;rw [e2];simp only at h ⊢;by_cases oe:Go.Proofs.YtapechjebkjidaaGreatDoor.pk L a=94
    ·rw [if_pos oe]at h;rw [if_pos (c1.2 oe)];by_cases hw:(nR 94 cur []).2≠0
     ·rw [if_pos hw]at h;cases h
     rw [if_neg hw]at h ⊢;injection h with h;injection h with h3 h4;subst h3 h4;exact⟨hk,rfl⟩
    rw [if_neg oe]at h;rw [if_neg (fun x=>oe (c1.1 x))];injection h with h;injection h with h3 h4;subst h3 h4;exact⟨hk,rfl⟩
end
theorem ze (L:List Int):∀ f g i,L.length<f+i→L.length<g+i→eZ L f i=eZ L g i:=by
 have key:∀ g i,L.length<i→eZ L g i=aQ L i:=by
  intro g i h;cases g with
  | zero=>rfl
  | succ g=>
   rw [eZ,if_neg];have e:aQ L i=i:=cQ (fun h2=>absurd h2 (by omega));rw [e,qw (by omega)];decide
 intro f;induction f with
 | zero=>intro g i h1 h2;rw [key 0 i (by omega),key g i (by omega)]
 | succ f ih=>
  intro g i h1 h2;cases g with
  | zero=>rw [key 0 i (by omega),key (f+1) i (by omega)]
  | succ g=>
   rw [eZ,eZ];by_cases tU:pk L (aQ L i)=35
   ·rw [if_pos tU,if_pos tU];have hl:aQ L i<L.length:=bw (by omega);have h3:=ey L i;have h4:aQ L i+1≤aA qP L (aQ L i):=(by rw [dU hl (by rw [tU];rfl)];exact eP _ _ _);exact ih g _ (by omega) (by omega)
   rw [if_neg tU,if_neg tU]
theorem Nx {L:List Int} {k:Nat} (tU:pk L k=35):k<L.length∧k+1≤aA qP L k:=by
 have hl:k<L.length:=bw (by omega);exact⟨hl,by rw [dU hl (by rw [tU];rfl)];exact eP _ _ _⟩
theorem oO (L:List Int) (i:Nat):az L i=if pk L (aQ L i)=35 then az L (aA qP L (aQ L i))else aQ L i:=by
 show eZ L (L.length+1) i=_;rw [eZ];by_cases tU:pk L (aQ L i)=35
 ·rw [if_pos tU,if_pos tU];have:=(Nx tU).2;exact ze L _ _ _ (by omega) (by omega)
 rw [if_neg tU,if_neg tU]
end Go.Proofs.YtapechjebkjidaaGreatDoor
