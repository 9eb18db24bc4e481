/- PartWalk + PartAll + FileSyn + RulesP + RulesMono + RulesEmb + SpaceEq + RulesEmb2 -/
import Derived.Test.YtamkjeipdjbemaaGreatDoorZp12
import Derived.Deep.RegionWith
import Derived.Test.YtamkjeipdjbemaaGreatDoorZp10
set_option maxHeartbeats 1600000
set_option maxRecDepth 100000
namespace Go.Proofs.YtamkjeipdjbemaaGreatDoor
open Go.RowKit
theorem DO {w:World} {g:Nat} {t:TypeId} {cs:Array Value} (h:an w g t cs):an w.drew g t cs:=h
theorem Ns (name:ByteArray) (set:ag) (left right:cG) (dir:Int) (A:Option Addr) (n c:Nat) (L1 L2 L3 R1 R2 R3:Option Addr) (a1 a2 a3 x1 x2 x3 b1 b2 b3 y1 y2 y3:Nat) (w:World) (hs:mA w w.heap.size A n set) (hn:n≤9223372036854775807) :
    Calls Tryz.prog 68 #[.agg #[.int .i64 1,.string name,.slice A n c,.int .i64 dir,.bool left.start,.bool left.fin,.slice L1 a1 x1,.slice L2 a2 x2,.slice L3 a3 x3,.int .i64 left.ai,.bool right.start,.bool right.fin,.slice R1 b1 y1,.slice R2 b2 y2,.slice R3 b3 y3,.int .i64 right.ai]] w fun e w'=>e=.returned (.int .i64 (if eO name=true then bD set else 7))∧Below w.heap.size w w':=by
 have HB:=qqh ((Below.refl w.heap.size w).alloc qql (.cells #[.int .i64 1,.string name,.slice A n c,.int .i64 dir,.bool left.start,.bool left.fin,.slice L1 a1 x1,.slice L2 a2 x2,.slice L3 a3 x3,.int .i64 left.ai,.bool right.start,.bool right.fin,.slice R1 b1 y1,.slice R2 b2 y2,.slice R3 b3 y3,.int .i64 right.ai] 83));have HS:=qqh (sU hs (.cells #[.int .i64 1,.string name,.slice A n c,.int .i64 dir,.bool left.start,.bool left.fin,.slice L1 a1 x1,.slice L2 a2 x2,.slice L3 a3 x3,.int .i64 left.ai,.bool right.start,.bool right.fin,.slice R1 b1 y1,.slice R2 b2 y2,.slice R3 b3 y3,.int .i64 right.ai] 83));clear hs;cases hr:eO name
 ·go_enter Tryz.func68,Tryz.ntmps68;go_wp2_with (go_at_call 101;refine(jF _ _).mono ?_;rintro e w' ⟨rfl,rfl⟩;rw [hr]);go_ret;exact⟨rfl,HB.out⟩
 go_enter Tryz.func68,Tryz.ntmps68;go_wp2_with (go_at_call 101;refine(jF _ _).mono ?_;rintro e w' ⟨rfl,rfl⟩;rw [hr]);refine(jx A n c set _ hn HS.out).mono ?_;rintro e w' ⟨rfl,hb⟩;go_wp2_with fail;go_ret;exact⟨rfl,HB.out.trans (hb.mono (by simp))⟩
theorem CF (name:ByteArray) (set:ag) (left right:cG) (dir:Int) (A:Option Addr) (n c:Nat) (L1 L2 L3 R1 R2 R3:Option Addr) (a1 a2 a3 x1 x2 x3 b1 b2 b3 y1 y2 y3:Nat) (w:World) (hs:mA w w.heap.size A n set) (hn:n≤9223372036854775807) :
    Calls Tryz.prog 68 #[.agg #[.int .i64 3,.string name,.slice A n c,.int .i64 dir,.bool left.start,.bool left.fin,.slice L1 a1 x1,.slice L2 a2 x2,.slice L3 a3 x3,.int .i64 left.ai,.bool right.start,.bool right.fin,.slice R1 b1 y1,.slice R2 b2 y2,.slice R3 b3 y3,.int .i64 right.ai]] w fun e w'=>e=.returned (.int .i64 (bD set))∧Below w.heap.size w w':=by
 have HB:=qqh ((Below.refl w.heap.size w).alloc qql (.cells #[.int .i64 3,.string name,.slice A n c,.int .i64 dir,.bool left.start,.bool left.fin,.slice L1 a1 x1,.slice L2 a2 x2,.slice L3 a3 x3,.int .i64 left.ai,.bool right.start,.bool right.fin,.slice R1 b1 y1,.slice R2 b2 y2,.slice R3 b3 y3,.int .i64 right.ai] 83));have HS:=qqh (sU hs (.cells #[.int .i64 3,.string name,.slice A n c,.int .i64 dir,.bool left.start,.bool left.fin,.slice L1 a1 x1,.slice L2 a2 x2,.slice L3 a3 x3,.int .i64 left.ai,.bool right.start,.bool right.fin,.slice R1 b1 y1,.slice R2 b2 y2,.slice R3 b3 y3,.int .i64 right.ai] 83));clear hs;go_enter Tryz.func68,Tryz.ntmps68;go_wp2_with fail;refine(jx A n c set _ hn HS.out).mono ?_;rintro e w' ⟨rfl,hb⟩;go_wp2_with fail;go_ret;exact⟨rfl,HB.out.trans (hb.mono (by simp))⟩
theorem FH (name:ByteArray) (left right:cG) (kind dir:Int) (A:Option Addr) (n c:Nat) (L1 L2 L3 R1 R2 R3:Option Addr) (a1 a2 a3 x1 x2 x3 b1 b2 b3 y1 y2 y3:Nat) (w:World) (k1:kind≠1) (k2:kind≠2) (k3:kind≠3) (k4:kind≠4) :
    Calls Tryz.prog 68 #[.agg #[.int .i64 kind,.string name,.slice A n c,.int .i64 dir,.bool left.start,.bool left.fin,.slice L1 a1 x1,.slice L2 a2 x2,.slice L3 a3 x3,.int .i64 left.ai,.bool right.start,.bool right.fin,.slice R1 b1 y1,.slice R2 b2 y2,.slice R3 b3 y3,.int .i64 right.ai]] w fun e w'=>e=.returned (.int .i64 (1))∧Below w.heap.size w w':=by
 have HB:=qqh ((Below.refl w.heap.size w).alloc qql (.cells #[.int .i64 kind,.string name,.slice A n c,.int .i64 dir,.bool left.start,.bool left.fin,.slice L1 a1 x1,.slice L2 a2 x2,.slice L3 a3 x3,.int .i64 left.ai,.bool right.start,.bool right.fin,.slice R1 b1 y1,.slice R2 b2 y2,.slice R3 b3 y3,.int .i64 right.ai] 83));have e1:(kind == 1)=false:=(by simpa using k1);have e2:(kind == 2)=false:=(by simpa using k2);have e3:(kind == 3)=false:=(by simpa using k3);have e4:(kind == 4)=false:=(by simpa using k4);clear k1 k2 k3 k4;go_enter Tryz.func68,Tryz.ntmps68;go_wp2_with fail;go_ret;exact⟨rfl,HB.out⟩
theorem Ky (name:ByteArray) (left right:cG) (dir:Int) (A:Option Addr) (n c:Nat) (L1 L2 L3 R1 R2 R3:Option Addr) (a1 a2 a3 x1 x2 x3 b1 b2 b3 y1 y2 y3:Nat) (w:World)  :
    Calls Tryz.prog 68 #[.agg #[.int .i64 4,.string name,.slice A n c,.int .i64 dir,.bool left.start,.bool left.fin,.slice L1 a1 x1,.slice L2 a2 x2,.slice L3 a3 x3,.int .i64 left.ai,.bool right.start,.bool right.fin,.slice R1 b1 y1,.slice R2 b2 y2,.slice R3 b3 y3,.int .i64 right.ai]] w fun e w'=>e=.returned (.int .i64 (if gC name=true then 0 else 7))∧Below w.heap.size w w':=by
 have HB:=qqh ((Below.refl w.heap.size w).alloc qql (.cells #[.int .i64 4,.string name,.slice A n c,.int .i64 dir,.bool left.start,.bool left.fin,.slice L1 a1 x1,.slice L2 a2 x2,.slice L3 a3 x3,.int .i64 left.ai,.bool right.start,.bool right.fin,.slice R1 b1 y1,.slice R2 b2 y2,.slice R3 b3 y3,.int .i64 right.ai] 83));have c1:(w.alloc (.cells #[.int .i64 4,.string name,.slice A n c,.int .i64 dir,.bool left.start,.bool left.fin,.slice L1 a1 x1,.slice L2 a2 x2,.slice L3 a3 x3,.int .i64 left.ai,.bool right.start,.bool right.fin,.slice R1 b1 y1,.slice R2 b2 y2,.slice R3 b3 y3,.int .i64 right.ai] 83)).cell? ⟨w.heap.size,1,none⟩=some (.string name):=(an.new _ _ _).cell 1;have hlt:w.heap.size<(w.alloc (.cells #[.int .i64 4,.string name,.slice A n c,.int .i64 dir,.bool left.start,.bool left.fin,.slice L1 a1 x1,.slice L2 a2 x2,.slice L3 a3 x3,.int .i64 left.ai,.bool right.start,.bool right.fin,.slice R1 b1 y1,.slice R2 b2 y2,.slice R3 b3 y3,.int .i64 right.ai] 83)).heap.size:=(by simp);cases hr:gC name
 all_goals
   have HR:=qqh hr
   clear hr
   go_enter Tryz.func68,Tryz.ntmps68
   go_wp2_with fail
   generalize w.alloc (.cells #[.int .i64 4,.string name,.slice A n c,.int .i64 dir,.bool left.start,.bool left.fin,.slice L1 a1 x1,.slice L2 a2 x2,.slice L3 a3 x3,.int .i64 left.ai,.bool right.start,.bool right.fin,.slice R1 b1 y1,.slice R2 b2 y2,.slice R3 b3 y3,.int .i64 right.ai] 83)=W0 at *
   go_region_with (first | (go_at_call 42;refine(jj _).mono ?_;rintro e w' ⟨rfl,rfl⟩) | (go_at_call 41;refine(rM _ name _ HR.out _ (DO (an.new _ _ _))).mono ?_;rintro e w' ⟨rfl,rfl⟩))
   all_goals
     go_wp2_with fail
     go_ret
     exact⟨rfl,below_drewN (HB.out.alloc HB.out.size _) _⟩
theorem su (p:aK) (A:Option Addr) (n c:Nat) (L1 L2 L3 R1 R2 R3:Option Addr) (a1 a2 a3 x1 x2 x3 b1 b2 b3 y1 y2 y3:Nat) (w:World) (hs:mA w w.heap.size A n p.set) (hn:n≤maxLen) (l1:ck w w.heap.size L1 a1 p.left.before) (l2:ck w w.heap.size L2 a2 p.left.source) (l3:ck w w.heap.size L3 a3 p.left.after) (AH:a1≤maxLen) (yp:a2≤maxLen) (Bu:a3≤maxLen) (r1:ck w w.heap.size R1 b1 p.right.before) (r2:ck w w.heap.size R2 b2 p.right.source) (r3:ck w w.heap.size R3 b3 p.right.after) (AB:b1≤maxLen) (yo:b2≤maxLen) (Bz:b3≤maxLen)  :
    Calls Tryz.prog 68 #[.agg #[.int .i64 p.kind,.string p.name,.slice A n c,.int .i64 p.dir,.bool p.left.start,.bool p.left.fin,.slice L1 a1 x1,.slice L2 a2 x2,.slice L3 a3 x3,.int .i64 p.left.ai,.bool p.right.start,.bool p.right.fin,.slice R1 b1 y1,.slice R2 b2 y2,.slice R3 b3 y3,.int .i64 p.right.ai]] w fun e w'=>e=.returned (.int .i64 (iB p))∧Below w.heap.size w w':=by
 obtain⟨kind,name,set,dir,left,right⟩:=p;dsimp only at *;unfold iB;dsimp only;by_cases k1:kind=1
 ·subst k1;rw [if_pos rfl];exact Ns name set left right dir A n c L1 L2 L3 R1 R2 R3 a1 a2 a3 x1 x2 x3 b1 b2 b3 y1 y2 y3 w hs (by unfold maxLen at hn;omega)
 by_cases k3:kind=3
 ·subst k3;rw [if_neg k1,if_pos rfl];exact CF name set left right dir A n c L1 L2 L3 R1 R2 R3 a1 a2 a3 x1 x2 x3 b1 b2 b3 y1 y2 y3 w hs (by unfold maxLen at hn;omega)
 by_cases k4:kind=4
 ·subst k4;rw [if_neg k1,if_neg k3,if_pos rfl];exact Ky name left right dir A n c L1 L2 L3 R1 R2 R3 a1 a2 a3 x1 x2 x3 b1 b2 b3 y1 y2 y3 w
 by_cases k2:kind=2
 ·subst k2;rw [if_neg k1,if_neg k3,if_neg k4,if_pos rfl];by_cases hd:dir<1∨3<dir
  ·have e:dA dir left right=1:=if_pos hd;rw [e];exact LD name left right dir A n c L1 L2 L3 R1 R2 R3 a1 a2 a3 x1 x2 x3 b1 b2 b3 y1 y2 y3 w hd
  rcases (show dir=1∨dir=2∨dir=3 by omega)with rfl | rfl | rfl;exact Gl name left right A n c L1 L2 L3 R1 R2 R3 a1 a2 a3 x1 x2 x3 b1 b2 b3 y1 y2 y3 w l1 l2 l3 AH yp Bu r1 r2 r3 AB yo Bz;exact Gy name left right A n c L1 L2 L3 R1 R2 R3 a1 a2 a3 x1 x2 x3 b1 b2 b3 y1 y2 y3 w l1 l2 l3 AH yp Bu r1 r2 r3 AB yo Bz;exact F3 name left right A n c L1 L2 L3 R1 R2 R3 a1 a2 a3 x1 x2 x3 b1 b2 b3 y1 y2 y3 w l1 l2 l3 AH yp Bu r1 r2 r3 AB yo Bz
 rw [if_neg k1,if_neg k3,if_neg k4,if_neg k2];exact FH name left right kind dir A n c L1 L2 L3 R1 R2 R3 a1 a2 a3 x1 x2 x3 b1 b2 b3 y1 y2 y3 w k1 k2 k3 k4
theorem qs (A:Option Addr) (n c:Nat) (l:List aK) (w:World) (hn:n≤maxLen) (hl:DH w w.heap.size A n l) :
    Calls Tryz.prog 69 #[.slice A n c] w fun e w'=>e=.returned (.agg #[.int .i64 (fX l).1,.int .i64 (fX l).2])∧Below w.heap.size w w':=by
 have aM:=qqh (kL.len hl);have HL:=qqh hl;have hn2:n≤9223372036854775807:=(by unfold maxLen at hn;omega);clear hl hn;by_cases h20:200<n
 ·have HP:=qqh (show fX l=(5,0) by unfold fX;rw [if_pos (by rw [aM.out];exact h20)]);go_enter Tryz.func69,Tryz.ntmps69;go_wp2_with fail;rw [HP.out];exact bodyPost_ret (v:=.agg #[.int .i64 5,.int .i64 0]) (by simp [results,Tryz.results69,go_sem]) rfl ⟨rfl,qqb.alloc qql _⟩
 have HP:=qqh (show fX l=mw 0 l by unfold fX;rw [if_neg (by rw [aM.out];exact h20)]);go_enter Tryz.func69,Tryz.ntmps69;go_wp2_with fail;go_loopw [12] (Vc w l n) (fun i _=>n - (intOf i).toNat);(case atStart=>exact⟨0,Nat.zero_le _,rfl,rfl,an.new _ _ _,qqb.alloc qql _⟩);obtain⟨k,hk,rfl,aN,hres,hb⟩:=hrel;have hz:=hb.size;have aeN:=hres.lt;by_cases hlt:k<n
 ·obtain⟨p,hp⟩:∃ z,l[k]? = some z:=⟨_,List.getElem?_eq_getElem (by rw [aM.out];exact hlt)⟩;rw [bR hp,mw]at aN;obtain⟨b,off,A',n',c',L1,L2,L3,R1,R2,R3,a1,a2,a3,x1,x2,x3,b1,b2,b3,y1,y2,y3,rfl,cK,⟨f0,f1,f2,f3,f4,f5,f6,f7,f8,f9,f10,f11,f12,f13,f14,f15⟩,hs,hn',l1,l2,l3,AH,yp,Bu,r1,r2,r3,AB,yo,Bz,cl,cr,hm⟩:=Ip HL.out hp;have d0:=(hb.cell (p:=⟨b,off+k*16,none⟩) cK).trans f0;have d1:=(hb.cell (p:=⟨b,off+k*16+1,none⟩) cK).trans f1;have d2:=(hb.cell (p:=⟨b,off+k*16+2,none⟩) cK).trans f2;have d3:=(hb.cell (p:=⟨b,off+k*16+3,none⟩) cK).trans f3;have d4:=(hb.cell (p:=⟨b,off+k*16+4,none⟩) cK).trans f4;have d5:=(hb.cell (p:=⟨b,off+k*16+5,none⟩) cK).trans f5;have d6:=(hb.cell (p:=⟨b,off+k*16+6,none⟩) cK).trans f6;have d7:=(hb.cell (p:=⟨b,off+k*16+7,none⟩) cK).trans f7;have d8:=(hb.cell (p:=⟨b,off+k*16+8,none⟩) cK).trans f8;have d9:=(hb.cell (p:=⟨b,off+k*16+9,none⟩) cK).trans f9;have d10:=(hb.cell (p:=⟨b,off+k*16+10,none⟩) cK).trans f10;have d11:=(hb.cell (p:=⟨b,off+k*16+11,none⟩) cK).trans f11;have d12:=(hb.cell (p:=⟨b,off+k*16+12,none⟩) cK).trans f12;have d13:=(hb.cell (p:=⟨b,off+k*16+13,none⟩) cK).trans f13;have d14:=(hb.cell (p:=⟨b,off+k*16+14,none⟩) cK).trans f14;have d15:=(hb.cell (p:=⟨b,off+k*16+15,none⟩) cK).trans f15;have HI:=qqh (fun w' (hw:Below w.heap.size w w')=>su p A' n' c' L1 L2 L3 R1 R2 R3 a1 a2 a3 x1 x2 x3 b1 b2 b3 y1 y2 y3 w' (Rd.more (Rd.below hs hw) hw.size) hn' (aU l1 hw) (aU l2 hw) (aU l3 hw) AH yp Bu (aU r1 hw) (aU r2 hw) (aU r3 hw) AB yo Bz);clear f0 f1 f2 f3 f4 f5 f6 f7 f8 f9 f10 f11 f12 f13 f14 f15 hs hn' l1 l2 l3 AH yp Bu r1 r2 r3 AB yo Bz cl cr hm
  have bF:=qqh (hb.alloc hz (.cells #[.int .i64 p.kind,.string p.name,.slice A' n' c',.int .i64 p.dir,.bool p.left.start,.bool p.left.fin,.slice L1 a1 x1,.slice L2 a2 x2,.slice L3 a3 x3,.int .i64 p.left.ai,.bool p.right.start,.bool p.right.fin,.slice R1 b1 y1,.slice R2 b2 y2,.slice R3 b3 y3,.int .i64 p.right.ai] 83));have ot:=qqh (hres.alloc (.cells #[.int .i64 p.kind,.string p.name,.slice A' n' c',.int .i64 p.dir,.bool p.left.start,.bool p.left.fin,.slice L1 a1 x1,.slice L2 a2 x2,.slice L3 a3 x3,.int .i64 p.left.ai,.bool p.right.start,.bool p.right.fin,.slice R1 b1 y1,.slice R2 b2 y2,.slice R3 b3 y3,.int .i64 p.right.ai] 83));by_cases hi:iB p=0
  ·rw [if_pos hi]at aN;have HG:=qqh aN;clear aN hres;go_wp2_with fail;refine(HI.out _ bF.out).mono ?_;rintro e w2 ⟨rfl,aX⟩;rw [hi];have hk2:=an.below ot.out aX ot.out.lt;have bM:=bF.out.trans (aX.mono bF.out.size);have TQ:=qqh hk2;have bN:=qqh bM;clear aX bM hk2;go_wp2_with fail;exact⟨⟨k+1,by omega,by go_num,HG.out,TQ.out,bN.out⟩,by simp [intOf];omega⟩
  rw [if_neg hi]at aN;have hi2:(iB p != 0)=true:=(by simpa using hi);have HG:=qqh aN;clear aN hres hi;go_wp2_with fail;refine(HI.out _ bF.out).mono ?_;rintro e w2 ⟨rfl,aX⟩;have hk2:=an.below ot.out aX ot.out.lt;have bM:=bF.out.trans (aX.mono bF.out.size);have q0:w2.cell? ⟨w.heap.size,0,none⟩=some (.int .i64 0):=hk2.cell 0;have q1:w2.cell? ⟨w.heap.size,1,none⟩=some (.int .i64 0):=hk2.cell 1;have q2:=hk2.frozen 0;have q3:=hk2.frozen 1;have bN:=qqh bM;clear aX bM hk2;go_wp2_with fail;rw [HP.out,HG.out];exact bodyPost_ret (v:=.agg #[.int .i64 (iB p),.int .i64 k]) (by simp [results,Tryz.results69,go_sem,q0,q1]) rfl ⟨rfl,(bN.out.setCell (by simp) _).setCell (by simp) _⟩
 obtain rfl:k=n:=(by omega);rw [List.drop_of_length_le (by rw [aM.out];omega)]at aN;have HG:=qqh (aN.trans (show mw k [] =(0,0) from rfl));have q0:wr.cell? ⟨w.heap.size,0,none⟩=some (.int .i64 0):=hres.cell 0;have q1:wr.cell? ⟨w.heap.size,1,none⟩=some (.int .i64 0):=hres.cell 1;have q2:=hres.frozen 0;have q3:=hres.frozen 1;clear aN hres;go_wp2_with fail;rw [HP.out,HG.out];exact bodyPost_ret (v:=.agg #[.int .i64 0,.int .i64 0]) (by simp [results,Tryz.results69,go_sem,q0,q1]) rfl ⟨rfl,(hb.setCell (by simp) _).setCell (by simp) _⟩
def qI (r:Int):Bool:=decide (0≤r) && !decide (r=10)
def fq (L:List Int):Nat→Nat→Nat
  | 0,i=>aW L i
  | f+1,i=>if pk L (aW L i)=35 then fq L f (aF qI L (aW L i))else aW L i
def aD (L:List Int) (i:Nat):Nat:=fq L (L.length+1) i
def kB (r:Int):Bool:=(decide (97≤r) && decide (r≤122)) || decide (r=95)
def Cb (r:Int):Bool:=decide (48≤r) && decide (r≤57)
def bC (L:List Int) (i:Nat):Nat:=if kB (pk L i)=true then aF (fun r=>kB r || Cb r) L i else i
def iL (L:List Int) (i:Nat):ByteArray:=runesBytes (aT L i (bC L i))
def gU (L:List Int) (i:Nat):kG ByteArray:=if eO (iL L i)=true then .ok (iL L i,bC L i)else .error (7,i)
def lK (r:Int):Bool:=decide (0≤r) && !decide (r=39)
def eX:ByteArray:=⟨#[]⟩
def mQ (x:Int):aI:=⟨1,x,[],eX⟩
def gH (L:List Int) (i:Nat):kG (List aI) :=
  if pk L (aF lK L (i+1))=39 then .ok ((aT L (i+1) (aF lK L (i+1))).map mQ,aF lK L (i+1)+1)else .error (2,aF lK L (i+1))
def cN (L:List Int) (a:Nat) (out:List aI) (cur:Int):Except (Int × Nat) (Option ((List aI × Int) × Nat)) :=
  if pk L a=124 then (if 0≤cur then .error (5,a)else .ok (some ((out,(out.length:Int)),a+1)))
  else if pk L a=91 then match bT L 20 a with | .error e=>.error e | .ok (s,j)=>.ok (some ((out++[⟨2,0,s,eX⟩],cur),j))
  else if pk L a=36∧kB (pk L (a+1))=true then match gU L (a+1)with | .error e=>.error e | .ok (s,j)=>.ok (some ((out++[⟨3,0,[],s⟩],cur),j))
  else if pk L a=39 then match gH L a with | .error e=>.error e | .ok (l,j)=>.ok (some ((out++l,cur),j))
  else if pk L a=92∨dG (pk L a)=true then match dz L a with | .error e=>.error e | .ok (x,j)=>if bL x=true then .ok (some ((out++[mQ x],cur),j))else .error (3,a)
  else .ok none
def de (L:List Int):Nat→Nat→List aI→Int→kG (List aI × Int)
  | 0,i,_,_=>.error (2,i)
  | f+1,i,out,cur=>match cN L (aD L i) out cur with
    | .error e=>.error e
    | .ok none=>.ok ((out,cur),aD L i)
    | .ok (some ((o,c),j))=>if 20<o.length then .error (5,aD L i)else de L f j o c
def cS (L:List Int) (i:Nat):kG (List aI × Int):=de L (L.length+1) i [] (-1)
def eo (L:List Int) (start:Bool) (a:Nat):kG (List aI × List aI × Int) :=
  match cS L a with
  | .error e=>.error e
  | .ok ((l,c),j)=>
    if pk L j=123 then (if 0≤c then .error (8,a)else match cS L (j+1)with | .error e=>.error e | .ok ((l2,c2),j2)=>.ok ((l,l2,c2),j2))
    else if start=true then .error (2,j)else .ok (([],l,c),j)
def eK (L:List Int) (j:Nat):kG (List aI × Bool) :=
  if pk L j=125 then match cS L (j+1)with
    | .error e=>.error e
    | .ok ((l,c),k)=>if 0≤c then .error (8,j+1)else if pk L k=36 then .ok ((l,true),k+1)else .ok ((l,false),k)
  else .ok (([],false),j)
def ei (L:List Int) (i:Nat):kG cG :=
  match eo L (decide (pk L (aD L i)=94)) (if pk L (aD L i)=94 then aD L i+1 else aD L i)with
  | .error e=>.error e
  | .ok ((b,s,c),j)=>match eK L j with
    | .error e=>.error e
    | .ok ((a,fin),k)=>.ok (⟨decide (pk L (aD L i)=94),fin,b,s,a,c⟩,aD L k)
def fu (L:List Int) (i:Nat):kG Int :=
  if pk L i=62 then .ok (1,i+1)else if pk L i=60∧pk L (i+1)=62 then .ok (3,i+2)
  else match bw L i 60 with | .error e=>.error e | .ok j=>.ok (2,j)
def ef:cG:=⟨false,false,[],[],[],0⟩
def jL (L:List Int) (i:Nat):kG aK :=
  match ei L i with
  | .error e=>.error e
  | .ok (l,j)=>match fu L j with
    | .error e=>.error e
    | .ok (d,k)=>match ei L k with
      | .error e=>.error e
      | .ok (r,m)=>if iB ⟨2,eX,[],d,l,r⟩≠0 then .error (iB ⟨2,eX,[],d,l,r⟩,i)else .ok (⟨2,eX,[],d,l,r⟩,m)
def jN (L:List Int) (i:Nat):kG aK :=
  match bw L (i+1) 58 with
  | .error e=>.error e
  | .ok j=>
    if pk L (aD L j)=91 then match bT L 20 (aD L j)with | .error e=>.error e | .ok (s,k)=>.ok (⟨3,eX,s,0,ef,ef⟩,k)
    else if gC (iL L (aD L j))=true then .ok (⟨4,iL L (aD L j),[],0,ef,ef⟩,bC L (aD L j))else .error (7,aD L j)
def pM (L:List Int) (i:Nat):kG aK :=
  match gU L (i+1)with
  | .error e=>.error e
  | .ok (s,j)=>match bw L (aD L j) 61 with
    | .error e=>.error e
    | .ok k=>match bT L 20 (aD L k)with | .error e=>.error e | .ok (t,m)=>.ok (⟨1,s,t,0,ef,ef⟩,m)
def ku (L:List Int) (i:Nat):kG aK :=
  if pk L i=58 then jN L i
  else if pk L i=36∧pk L (aD L (bC L (i+1)))=61 then pM L i
  else jL L i
def iW (L:List Int):Nat→Nat→List aK→Except (Int × Nat) (List aK)
  | 0,i,_=>.error (2,i)
  | f+1,i,l=>
    if pk L (aD L i)<0 then .ok l
    else if l.length=200 then .error (5,aD L i)
    else match ku L (aD L i)with
      | .error e=>.error e
      | .ok (p,j)=>match bw L (aD L j) 59 with
        | .error e=>.error e
        | .ok k=>iW L f k (l++[p])
def jB (L:List Int):List aK × (Int × Int) :=
  if 16000<L.length then ([],(4,0))
  else match iW L (L.length+1) 0 []with
    | .error (e,p)=>([],(e,(p:Int)))
    | .ok l=>(l,(0,0))
theorem IK (L:List Int):∀ f i,i≤fq L f i:=by
 intro f;induction f with
 | zero=>exact fun i=>eG L i
 | succ f ih=>
  intro i;rw [fq];split;exact Nat.le_trans (eG L i) (Nat.le_trans (fm _ _ _) (ih _));exact eG L i
theorem rD {L:List Int} {i:Nat} (h:i≤L.length):aW L i≤L.length:=(iU h).2
theorem JT (L:List Int):∀ f i,i≤L.length→fq L f i≤L.length:=by
 intro f;induction f with
 | zero=>exact fun i h=>rD h
 | succ f ih=>
  intro i h;rw [fq];split;exact ih _ (iU (rD h)).2;exact rD h
theorem dP (L:List Int) (i:Nat):i≤aD L i:=IK L _ i
theorem pz {L:List Int} {i:Nat} (h:i≤L.length):aD L i≤L.length:=JT L _ i h
theorem xS (L:List Int) (i:Nat):i≤bC L i:=by
 unfold bC;split;exact fm _ _ _;exact qql
theorem lu {L:List Int} {i:Nat} (h:i≤L.length):bC L i≤L.length:=by
 unfold bC;split;exact(iU h).2;exact h
theorem mV {L:List Int} {i j:Nat} {s:ByteArray} (h:gU L i=.ok (s,j)):i<j∧eO s=true∧s=iL L i∧j=bC L i:=by
 unfold gU at h;split at h
 ·rename_i hn;injection h with h;injection h with h1 h2;subst h1 h2;refine⟨?_,hn,rfl,rfl⟩;rcases Nat.lt_or_ge i (bC L i)with hl | hl;exact hl;have he:bC L i=i:=Nat.le_antisymm hl (xS L i);have ht:iL L i=runesBytes []:=by
   unfold iL aT;rw [he,Nat.sub_self];rfl
  rw [ht]at hn;exact absurd hn (by unfold eO;simp [show(runesBytes []).size=0 from rfl])
 cases h
theorem xz {L:List Int} {i j:Nat} {l:List aI} (h:gH L i=.ok (l,j)):i+1<j∧j≤L.length:=by
 unfold gH at h;split at h
 ·rename_i hn;injection h with h;injection h with h1 h2;have hlt:=bO (L:=L) (i:=aF lK L (i+1)) (by omega);have:=fm lK L (i+1);omega
 cases h
theorem wA {L:List Int} (hL:dF L) {a j:Nat} {out o:List aI} {cur c:Int} (h:cN L a out cur=.ok (some ((o,c),j))):a<j∧out.length≤o.length:=by
 unfold cN at h;split at h
 ·split at h
  ·cases h
  injection h with h;injection h with h;injection h with h1 h2;injection h1 with h1 h3;subst h1 h2;exact⟨by omega,qql⟩
 split at h
 ·split at h
  ·cases h
  rename_i s j' hs;injection h with h;injection h with h;injection h with h1 h2;injection h1 with h1 h3;subst h1 h2;exact⟨(oK hL 20 _ _ _ hs).1,by simp⟩
 split at h
 ·split at h
  ·cases h
  rename_i s j' hs;injection h with h;injection h with h;injection h with h1 h2;injection h1 with h1 h3;subst h1 h2;have:=(mV hs).1;exact⟨by omega,by simp⟩
 split at h
 ·split at h
  ·cases h
  rename_i s j' hs;injection h with h;injection h with h;injection h with h1 h2;injection h1 with h1 h3;subst h1 h2;have:=(xz hs).1;exact⟨by omega,by simp⟩
 split at h
 ·split at h
  ·cases h
  rename_i x j' hs;split at h
  ·injection h with h;injection h with h;injection h with h1 h2;injection h1 with h1 h3;subst h1 h2;exact⟨(oG hL hs).1,by simp⟩
  cases h
 injection h with h;cases h
structure KK (p:Nat) (L L':List Int):Prop where
  here:∀ k,k<L.length→L'[p+k]? = L[k]?
  stop:pk L' (p+L.length)=10∨pk L' (p+L.length)=32∨pk L' (p+L.length) = -1
def Jy {α:Type} (p:Nat) (L:List Int) (r r':kG α):Prop:=∀ v j,r=.ok (v,j)→j≤L.length∧r'=.ok (v,p+j)
section
variable {p : Nat} {L L' : List Int} (E : KK p L L')
include E
theorem KK.pk {k:Nat} (hk:k<L.length):pk L' (p+k)=pk L k:=by
 unfold Go.Proofs.YtamkjeipdjbemaaGreatDoor.pk;rw [E.here k hk]
theorem KK.is {k:Nat} (hk:k≤L.length) {r:Int} (h1:r≠10) (h2:r ≠ -1) (h3:r≠32):Go.Proofs.YtamkjeipdjbemaaGreatDoor.pk L' (p+k)=r↔Go.Proofs.YtamkjeipdjbemaaGreatDoor.pk L k=r:=by
 rcases Nat.lt_or_ge k L.length with hl | hl
 ·rw [E.pk hl]
 have hk:k=L.length:=(by omega);subst hk;rw [qS qql];rcases E.stop with e | e | e <;> rw [e] <;> constructor <;> intro h' <;> omega
theorem KK.lt {k:Nat} (hk:k<L.length):p+k<L'.length:=by
 have:=E.here k hk;rw [List.getElem?_eq_getElem hk]at this;exact(List.getElem?_eq_some_iff.1 this).1
theorem KK.len:L.length≤L'.length:=by
 rcases Nat.eq_zero_or_pos L.length with h | h;omega;have:=E.lt (k:=L.length - 1) (by omega);omega
theorem KK.run {q:Int→Bool}:∀ (d i:Nat),L.length - i=d→i≤L.length→(aF q L i<L.length∨q (Go.Proofs.YtamkjeipdjbemaaGreatDoor.pk L' (p+L.length))=false)→aF q L' (p+i)=p+aF q L i:=by
 intro d;induction d with
 | zero=>
  intro i hd hi hq;have e:i=L.length:=(by omega);subst e;have e2:aF q L L.length=L.length:=di (fun h=>absurd h (Nat.lt_irrefl _));rw [e2]at hq ⊢;rcases hq with hq | hq;omega;exact di (fun _=>hq)
 | succ d ih=>
  intro i hd hi hq;have hl:i<L.length:=(by omega);cases hv:q (Go.Proofs.YtamkjeipdjbemaaGreatDoor.pk L i)with
  | true=>
   rw [ey hl hv]at hq ⊢;rw [ey (E.lt hl) (by rw [E.pk hl];exact hv),Nat.add_assoc];exact ih (i+1) (by omega) (by omega) hq
  | false=>rw [di (fun _=>hv),di (fun _=>by rw [E.pk hl];exact hv)]
theorem KK.SX {q:Int→Bool} (h1:q 10=false) (h2:q 32=false) (h3:q (-1)=false) {i:Nat} (hi:i≤L.length):aF q L' (p+i)=p+aF q L i:=by
 refine E.run _ i rfl hi (.inr ?_);rcases E.stop with e | e | e <;> rw [e] <;> assumption
theorem KK.skip {i:Nat} (hi:i≤L.length) (h:aW L i<L.length):aW L' (p+i)=p+aW L i:=E.run _ i rfl hi (.inl h)
theorem KK.text {i j:Nat} (hj:j≤L.length):aT L' (p+i) (p+j)=aT L i j:=by
 unfold aT;rw [show p+j - (p+i)=j - i by omega];apply List.ext_getElem?;intro k;rcases Nat.lt_or_ge k (j - i)with hk | hk
 ·rw [List.getElem?_take_of_lt hk,List.getElem?_take_of_lt hk,List.getElem?_drop,List.getElem?_drop,Nat.add_assoc];exact E.here _ (by omega)
 rw [List.getElem?_take_eq_none hk,List.getElem?_take_eq_none hk]
theorem jM {i j:Nat} {r:Int} (h:bw L i r=.ok j) (hr:r ≠ -1):j≤L.length∧bw L' (p+i) r=.ok (p+j):=by
 obtain⟨rfl,hp⟩:=gE h;have hl:i<L.length:=bO (by rw [hp];exact hr);refine⟨hl,?_⟩;rw [Nc (by rw [E.pk hl];exact hp)];rfl
theorem OV (i:Nat):Jy p L (kR L i) (kR L' (p+i)):=by
 intro v j h;unfold kR at h ⊢;cases h1:bw L (i+1) 123 with
 | error e=>rw [h1]at h;cases h
 | ok a=>
  obtain⟨ha,e1⟩:=jM E h1 (by decide);rw [h1]at h;rw [show p+i+1=p+(i+1) from rfl,e1];simp only at h ⊢;rw [E.SX rfl rfl rfl ha,show p+aF fD L a - (p+a)=aF fD L a - a by omega];by_cases hn:aF fD L a - a<1∨6<aF fD L a - a
  ·rw [if_pos hn]at h;cases h
  rw [if_neg hn]at h ⊢;cases h2:bw L (aF fD L a) 125 with
  | error e=>rw [h2]at h;cases h
  | ok b=>
   obtain⟨hb,e2⟩:=jM E h2 (by decide);rw [h2]at h;rw [e2];simp only at h ⊢;rw [E.text (iU ha).2];by_cases hm:1114111<eJ (aT L a (aF fD L a))
   ·rw [if_pos hm]at h;cases h
   rw [if_neg hm]at h ⊢;injection h with h;injection h with h3 h4;subst h3 h4;exact⟨hb,rfl⟩
theorem xY (i:Nat):Jy p L (dz L i) (dz L' (p+i)):=by
 intro v j h;unfold dz at h ⊢;by_cases hp:dG (Go.Proofs.YtamkjeipdjbemaaGreatDoor.pk L i)=true
 ·have hl:i<L.length:=bO (fun e=>by rw [e]at hp;exact absurd hp (by decide));rw [if_pos hp]at h;rw [E.pk hl,if_pos hp];injection h with h;injection h with h3 h4;subst h3 h4;exact⟨hl,rfl⟩
 rw [if_neg hp]at h;by_cases yb:Go.Proofs.YtamkjeipdjbemaaGreatDoor.pk L i≠92
 ·rw [if_pos yb]at h;cases h
 rw [if_neg yb]at h;have hl:i<L.length:=bO (by omega);rw [E.pk hl,if_neg hp,if_neg yb];have iJ:i+1<L.length:=bO (fun e=>by rw [e]at h;simp at h);rw [show p+i+1=p+(i+1) from rfl,E.pk iJ];by_cases c1:Go.Proofs.YtamkjeipdjbemaaGreatDoor.pk L (i+1)=110
 ·rw [if_pos c1]at h ⊢;injection h with h;injection h with h3 h4;subst h3 h4;exact⟨iJ,rfl⟩
 rw [if_neg c1]at h ⊢;by_cases c2:Go.Proofs.YtamkjeipdjbemaaGreatDoor.pk L (i+1)=116
 ·rw [if_pos c2]at h ⊢;injection h with h;injection h with h3 h4;subst h3 h4;exact⟨iJ,rfl⟩
 rw [if_neg c2]at h ⊢;by_cases c3:Go.Proofs.YtamkjeipdjbemaaGreatDoor.pk L (i+1)=117
 ·rw [if_pos c3]at h ⊢;exact OV E _ _ _ h
 rw [if_neg c3]at h ⊢;by_cases c4:Go.Proofs.YtamkjeipdjbemaaGreatDoor.pk L (i+1)<0∨Gu (Go.Proofs.YtamkjeipdjbemaaGreatDoor.pk L (i+1))=true
 ·rw [if_pos c4]at h;cases h
 rw [if_neg c4]at h ⊢;injection h with h;injection h with h3 h4;subst h3 h4;exact⟨iJ,rfl⟩
theorem Nv (i:Nat):Jy p L (jP L i) (jP L' (p+i)):=by
 intro v j h;unfold jP at h ⊢;cases h1:dz L i with
 | error e=>rw [h1]at h;cases h
 | ok q=>
  obtain⟨low,a⟩:=q;obtain⟨ha,e1⟩:=xY E _ _ _ h1;rw [h1]at h;rw [e1];simp only at h ⊢;have c1:(Go.Proofs.YtamkjeipdjbemaaGreatDoor.pk L' (p+a)=45∧Go.Proofs.YtamkjeipdjbemaaGreatDoor.pk L' (p+a+1)≠91)↔(Go.Proofs.YtamkjeipdjbemaaGreatDoor.pk L a=45∧Go.Proofs.YtamkjeipdjbemaaGreatDoor.pk L (a+1)≠91):=by
   rw [E.is ha (by decide) (by decide) (by decide)];refine and_congr_right (fun S6=>?_);have hl:a<L.length:=bO (by omega);exact not_congr (E.is (k:=a+1) hl (by decide) (by decide) (by decide))
  by_cases hc:Go.Proofs.YtamkjeipdjbemaaGreatDoor.pk L a=45∧Go.Proofs.YtamkjeipdjbemaaGreatDoor.pk L (a+1)≠91
  ·rw [if_pos hc]at h;rw [if_pos (c1.2 hc)];cases h2:dz L (a+1)with
   | error e=>rw [h2]at h;cases h
   | ok q=>
    obtain⟨high,b⟩:=q;obtain⟨hb,e2⟩:=xY E _ _ _ h2;rw [h2]at h;rw [show p+a+1=p+(a+1) from rfl,e2];simp only at h ⊢;by_cases hh:high<low
    ·rw [if_pos hh]at h;cases h
    rw [if_neg hh]at h ⊢;injection h with h;injection h with h3 h4;subst h3 h4;exact⟨hb,rfl⟩
  rw [if_neg hc]at h;rw [if_neg (fun x=>hc (c1.1 x))];injection h with h;injection h with h3 h4;subst h3 h4;exact⟨ha,rfl⟩
theorem IF {i:Nat} (hi:i+2≤L.length):Jy p L (fy L i) (fy L' (p+i)):=by
 intro v j h;unfold fy at h ⊢;rw [show p+i+2=p+(i+2) from rfl,E.SX rfl rfl rfl hi,E.text (iU hi).2];cases h0:iy (aT L (i+2) (aF dG L (i+2)))with
 | none=>rw [h0]at h;cases h
 | some s=>
  rw [h0]at h;simp only at h ⊢;cases h1:bw L (aF dG L (i+2)) 58 with
  | error e=>rw [h1]at h;cases h
  | ok a=>
   obtain⟨ha,e1⟩:=jM E h1 (by decide);rw [h1]at h;rw [e1];simp only at h ⊢;cases h2:bw L a 93 with
   | error e=>rw [h2]at h;cases h
   | ok b=>
    obtain⟨hb,e2⟩:=jM E h2 (by decide);rw [h2]at h;rw [e2];simp only at h ⊢;injection h with h;injection h with h3 h4;subst h3 h4;exact⟨hb,rfl⟩
def RI (p:Nat) (L:List Int) (inner inner':Nat→kG ag):Prop:=∀ i s j,inner i=.ok (s,j)→i<j∧j≤L.length∧inner' (p+i)=.ok (s,p+j)
theorem N4 {inner inner':Nat→kG ag} (hI:RI p L inner inner') (i:Nat) (s:ag) (j:Nat) (h:dJ inner L i=.ok (s,j)):i<L.length∧j≤L.length∧dJ inner' L' (p+i)=.ok (s,p+j):=by
 have hl:i<L.length:=by
  refine bO (fun e=>?_);unfold dJ at h;rw [if_neg (fun x=>by have:=x.1;omega),if_neg (by omega),if_neg (by omega)]at h;unfold jP dz at h;rw [e]at h;simp [dG]at h
 refine⟨hl,?_⟩;unfold dJ at h ⊢;rw [E.pk hl,show p+i+1=p+(i+1) from rfl];have c1:=E.is (k:=i+1) hl (r:=58) (by decide) (by decide) (by decide);by_cases hc:Go.Proofs.YtamkjeipdjbemaaGreatDoor.pk L i=91∧Go.Proofs.YtamkjeipdjbemaaGreatDoor.pk L (i+1)=58
 ·rw [if_pos hc]at h;rw [if_pos ⟨hc.1,c1.2 hc.2⟩];have iJ:i+1<L.length:=bO (by omega);exact IF E iJ _ _ h
 rw [if_neg hc]at h;rw [if_neg (fun x=>hc ⟨x.1,c1.1 x.2⟩)];by_cases kU:Go.Proofs.YtamkjeipdjbemaaGreatDoor.pk L i=91
 ·rw [if_pos kU]at h ⊢;exact(hI _ _ _ h).2
 rw [if_neg kU]at h ⊢;by_cases QW:Go.Proofs.YtamkjeipdjbemaaGreatDoor.pk L i=38∨Go.Proofs.YtamkjeipdjbemaaGreatDoor.pk L i=45
 ·rw [if_pos QW]at h ⊢;obtain⟨g1,g2,g3⟩:=hI _ _ _ h;rw [E.skip (i:=i+1) hl (by omega)];exact⟨g2,g3⟩
 rw [if_neg QW]at h ⊢;cases h1:jP L i with
 | error e=>rw [h1]at h;cases h
 | ok q=>
  obtain⟨x,a⟩:=q;obtain⟨ha,e1⟩:=Nv E _ _ _ h1;rw [h1]at h;rw [e1];simp only at h ⊢;injection h with h;injection h with h3 h4;subst h3 h4;exact⟨ha,rfl⟩
theorem JF {inner inner':Nat→kG ag} (hI:RI p L inner inner'):∀ (f f' i:Nat) (cur s:ag) (j:Nat),f≤f'→i≤L.length→ew inner L f i cur=.ok (s,j)→j≤L.length∧ew inner' L' f' (p+i) cur=.ok (s,p+j):=by
 intro f;induction f with
 | zero=>intro f' i cur s j _ _ h;unfold ew at h;cases h
 | succ f ih=>
  intro f' i cur s j hf hi h;obtain⟨f',rfl⟩:∃ g,f'=g+1:=⟨f' - 1,by omega⟩;rw [ew]at h ⊢;by_cases PI:Go.Proofs.YtamkjeipdjbemaaGreatDoor.pk L (aW L i)=93
  ·have hl:aW L i<L.length:=bO (by omega);rw [if_pos PI]at h;rw [E.skip hi hl,E.pk hl,if_pos PI];injection h with h;injection h with h3 h4;subst h3 h4;exact⟨hl,rfl⟩
  rw [if_neg PI]at h;cases h1:dJ inner L (aW L i)with
  | error e=>rw [h1]at h;cases h
  | ok q=>
   obtain⟨t,a⟩:=q;obtain⟨hl,ha,e1⟩:=N4 E hI _ _ _ h1;rw [h1]at h;rw [E.skip hi hl,E.pk hl,if_neg PI,e1];simp only at h ⊢;by_cases hw:(nS (uS (Go.Proofs.YtamkjeipdjbemaaGreatDoor.pk L (aW L i))) cur t).2≠0
   ·rw [if_pos hw]at h;cases h
   rw [if_neg hw]at h ⊢;exact ih f' a _ _ _ (by omega) ha h
theorem AI (hL:dF L):∀ n,RI p L (bT L n) (bT L' n):=by
 intro n;induction n with
 | zero=>intro i s j h;unfold bT at h;cases h
 | succ n ih=>
  intro i s j h;refine⟨(oK hL (n+1) i s j h).1,?_⟩;rw [bT]at h ⊢;cases h1:bw L i 91 with
  | error e=>rw [h1]at h;cases h
  | ok a=>
   obtain⟨ha,e1⟩:=jM E h1 (by decide);rw [h1]at h;rw [e1];simp only at h ⊢;have c1:=E.is ha (r:=94) (by decide) (by decide) (by decide);have hst:(if Go.Proofs.YtamkjeipdjbemaaGreatDoor.pk L' (p+a)=94 then p+a+1 else p+a)=p+(if Go.Proofs.YtamkjeipdjbemaaGreatDoor.pk L a=94 then a+1 else a):=by
    by_cases om:Go.Proofs.YtamkjeipdjbemaaGreatDoor.pk L a=94
    ·rw [if_pos om,if_pos (c1.2 om)];rfl
    rw [if_neg om,if_neg (fun x=>om (c1.1 x))]
   rw [hst];have Ji:(if Go.Proofs.YtamkjeipdjbemaaGreatDoor.pk L a=94 then a+1 else a)≤L.length:=by
    split
    ·rename_i om;exact bO (by omega)
    exact ha
   cases h2:ew (bT L n) L (L.length+1) (if Go.Proofs.YtamkjeipdjbemaaGreatDoor.pk L a=94 then a+1 else a) []with
   | error e=>rw [h2]at h;cases h
   | ok q=>
    obtain⟨cur,k⟩:=q;obtain⟨hk,e2⟩:=JF E ih _ (L'.length+1) _ _ _ _ (by have:=E.len;omega) Ji h2;rw [h2]at h;rw [e2];simp only at h ⊢;by_cases om:Go.Proofs.YtamkjeipdjbemaaGreatDoor.pk L a=94
    ·rw [if_pos om]at h;rw [if_pos (c1.2 om)];by_cases hw:(nS 94 cur []).2≠0
     ·rw [if_pos hw]at h;cases h
     rw [if_neg hw]at h ⊢;injection h with h;injection h with h3 h4;subst h3 h4;exact⟨hk,rfl⟩
    rw [if_neg om]at h;rw [if_neg (fun x=>om (c1.1 x))];injection h with h;injection h with h3 h4;subst h3 h4;exact⟨hk,rfl⟩
end
theorem yG (L:List Int):∀ f g i,L.length<f+i→L.length<g+i→fq L f i=fq L g i:=by
 have key:∀ g i,L.length<i→fq L g i=aW L i:=by
  intro g i h;cases g with
  | zero=>rfl
  | succ g=>
   rw [fq,if_neg];have e:aW L i=i:=di (fun h2=>absurd h2 (by omega));rw [e,qS (by omega)];decide
 intro f;induction f with
 | zero=>intro g i h1 h2;rw [key 0 i (by omega),key g i (by omega)]
 | succ f ih=>
  intro g i h1 h2;cases g with
  | zero=>rw [key 0 i (by omega),key (f+1) i (by omega)]
  | succ g=>
   rw [fq,fq];by_cases tD:pk L (aW L i)=35
   ·rw [if_pos tD,if_pos tD];have hl:aW L i<L.length:=bO (by omega);have h3:=eG L i;have h4:aW L i+1≤aF qI L (aW L i):=(by rw [ey hl (by rw [tD];rfl)];exact fm _ _ _);exact ih g _ (by omega) (by omega)
   rw [if_neg tD,if_neg tD]
theorem NA {L:List Int} {k:Nat} (tD:pk L k=35):k<L.length∧k+1≤aF qI L k:=by
 have hl:k<L.length:=bO (by omega);exact⟨hl,by rw [ey hl (by rw [tD];rfl)];exact fm _ _ _⟩
theorem oQ (L:List Int) (i:Nat):aD L i=if pk L (aW L i)=35 then aD L (aF qI L (aW L i))else aW L i:=by
 show fq L (L.length+1) i=_;rw [fq];by_cases tD:pk L (aW L i)=35
 ·rw [if_pos tD,if_pos tD];have:=(NA tD).2;exact yG L _ _ _ (by omega) (by omega)
 rw [if_neg tD,if_neg tD]
theorem JL {L:List Int} {i:Nat} (h1:qB (pk L i)=false) (h2:pk L i≠35):aD L i=i:=by
 have e:aW L i=i:=di (fun _=>h1);rw [oQ,e,if_neg h2]
theorem MB {L:List Int} (hL:dF L):∀ (f i:Nat) (out:List aI) (cur:Int) (v:List aI × Int) (j:Nat),de L f i out cur=.ok (v,j)→aD L i≤j:=by
 intro f;induction f with
 | zero=>intro i out cur v j h;rw [de]at h;cases h
 | succ f ih=>
  intro i out cur v j h;rw [de]at h;cases he:cN L (aD L i) out cur with
  | error e=>rw [he]at h;cases h
  | ok q=>
   rw [he]at h;cases q with
   | none=>simp only at h;injection h with h;injection h with h1 h2;omega
   | some q=>
    obtain⟨⟨o,c⟩,k⟩:=q;simp only at h;by_cases h20:20<o.length
    ·rw [if_pos h20]at h;cases h
    rw [if_neg h20]at h;have h1:=(wA hL he).1;have h2:=ih _ _ _ _ _ h;have h3:=dP L k;omega
section
variable {p : Nat} {L L' : List Int} (E : KK p L L')
include E
theorem gF:∀ (d i:Nat),L.length - i=d→i≤L.length→(aD L i<L.length∨pk L' (p+L.length) = -1)→aD L' (p+i)=p+aD L i:=by
 intro d;induction d using Nat.strongRecOn with
 | _ d ih=>
  intro i hd hi hq;rw [oQ L i]at hq;rw [oQ L i,oQ L' (p+i)];by_cases tD:pk L (aW L i)=35
  ·obtain⟨hl,hm⟩:=NA tD;rw [if_pos tD]at hq ⊢;rw [E.skip hi hl,E.pk hl,if_pos tD];have h1:=eG L i;have h2:aF qI L (aW L i)≤L.length:=(iU (Nat.le_of_lt hl)).2;have h3:=dP L (aF qI L (aW L i));rw [E.run _ _ rfl (Nat.le_of_lt hl) (by rcases hq with hq | hq;exact .inl (by omega);exact .inr (by rw [hq];rfl))];exact ih _ (by omega) _ rfl h2 hq
  rw [if_neg tD]at hq ⊢;have hs:aW L i≤L.length:=rD hi;have e:aW L' (p+i)=p+aW L i:=E.run _ i rfl hi (by rcases hq with hq | hq;exact .inl hq;exact .inr (by rw [hq];rfl));rw [e,if_neg];rcases Nat.lt_or_ge (aW L i) L.length with hl | hl
  ·rw [E.pk hl];exact tD
  rcases hq with hq | hq;omega;rw [show aW L i=L.length by omega,hq];decide
theorem jV {i:Nat} (hi:i≤L.length):bC L' (p+i)=p+bC L i:=by
 unfold bC;rcases Nat.lt_or_ge i L.length with hl | hl
 ·rw [E.pk hl];split;exact E.SX (by decide) (by decide) (by decide) hi;rfl
 have e:i=L.length:=(by omega);subst e;rw [qS qql,if_neg (by decide:¬ kB (-1)=true),if_neg];rcases E.stop with e | e | e <;> rw [e] <;> decide
theorem zI {i:Nat} (hi:i≤L.length):iL L' (p+i)=iL L i:=by
 unfold iL;rw [jV E hi,E.text (lu hi)]
theorem C5 {i:Nat} (hi:i≤L.length):Jy p L (gU L i) (gU L' (p+i)):=by
 intro v j h;have hj:=(mV h).2.2.2;unfold gU at h ⊢;rw [zI E hi,jV E hi];split at h
 ·rename_i hn;rw [if_pos hn];injection h with h;injection h with h3 h4;subst h3 h4;exact⟨lu hi,rfl⟩
 cases h
theorem Fv {i:Nat} (hi:i<L.length):Jy p L (gH L i) (gH L' (p+i)):=by
 intro v j h;have hj:=(xz h).2;refine⟨hj,?_⟩;unfold gH at h ⊢;by_cases yV:pk L (aF lK L (i+1))=39
 ·have hl:aF lK L (i+1)<L.length:=bO (by omega);rw [if_pos yV]at h;rw [show p+i+1=p+(i+1) from rfl,E.run _ (i+1) rfl hi (.inl hl),E.pk hl,if_pos yV,E.text (Nat.le_of_lt hl)];injection h with h;injection h with h3 h4;subst h3 h4;rfl
 rw [if_neg yV]at h;cases h
theorem Hs {k:Nat} (hk:k≤L.length):kB (pk L' (p+k))=kB (pk L k):=by
 rcases Nat.lt_or_ge k L.length with hl | hl
 ·rw [E.pk hl]
 have e:k=L.length:=(by omega);subst e;rw [qS qql];rcases E.stop with e | e | e <;> rw [e] <;> decide
theorem yM {a:Nat} (ha:a<L.length) {out:List aI} {cur:Int} (h:cN L a out cur=.ok none):cN L' (p+a) out cur=.ok none:=by
 unfold cN at h ⊢;rw [E.pk ha,show p+a+1=p+(a+1) from rfl,Hs E ha];by_cases uQ:pk L a=124
 ·rw [if_pos uQ]at h;split at h <;> first | cases h | (injection h with h;cases h)
 rw [if_neg uQ]at h ⊢;by_cases kU:pk L a=91
 ·rw [if_pos kU]at h;split at h <;> first | cases h | (injection h with h;cases h)
 rw [if_neg kU]at h ⊢;by_cases lJ:pk L a=36∧kB (pk L (a+1))=true
 ·rw [if_pos lJ]at h;split at h <;> first | cases h | (injection h with h;cases h)
 rw [if_neg lJ]at h ⊢;by_cases yV:pk L a=39
 ·rw [if_pos yV]at h;split at h <;> first | cases h | (injection h with h;cases h)
 rw [if_neg yV]at h ⊢;by_cases yb:pk L a=92∨dG (pk L a)=true
 ·rw [if_pos yb]at h;split at h
  ·cases h
  split at h <;> first | cases h | (injection h with h;cases h)
 rw [if_neg yb]
theorem MW (hL:dF L) {a j:Nat} {out o:List aI} {cur c:Int} (h:cN L a out cur=.ok (some ((o,c),j))):a<j∧j≤L.length∧cN L' (p+a) out cur=.ok (some ((o,c),p+j)):=by
 have haj:=(wA hL h).1;have ha:a<L.length:=by
  refine bO (fun e=>?_);unfold cN at h;rw [e]at h;simp [dG]at h
 refine⟨haj,?_⟩;unfold cN at h ⊢;rw [E.pk ha,show p+a+1=p+(a+1) from rfl,Hs E ha];by_cases uQ:pk L a=124
 ·rw [if_pos uQ]at h ⊢;by_cases hc:0≤cur
  ·rw [if_pos hc]at h;cases h
  rw [if_neg hc]at h ⊢;injection h with h;injection h with h;injection h with h1 h2;injection h1 with h1 h3;subst h1 h2 h3;exact⟨ha,rfl⟩
 rw [if_neg uQ]at h ⊢;by_cases kU:pk L a=91
 ·rw [if_pos kU]at h ⊢;cases hs:bT L 20 a with
  | error e=>rw [hs]at h;cases h
  | ok q=>
   obtain⟨s,k⟩:=q;obtain⟨_,hk,e1⟩:=AI E hL 20 _ _ _ hs;rw [hs]at h;rw [e1];simp only at h ⊢;injection h with h;injection h with h;injection h with h1 h2;injection h1 with h1 h3;subst h1 h2 h3;exact⟨hk,rfl⟩
 rw [if_neg kU]at h ⊢;by_cases lJ:pk L a=36∧kB (pk L (a+1))=true
 ·rw [if_pos lJ]at h ⊢;cases hs:gU L (a+1)with
  | error e=>rw [hs]at h;cases h
  | ok q=>
   obtain⟨s,k⟩:=q;obtain⟨hk,e1⟩:=C5 E ha _ _ hs;rw [hs]at h;rw [e1];simp only at h ⊢;injection h with h;injection h with h;injection h with h1 h2;injection h1 with h1 h3;subst h1 h2 h3;exact⟨hk,rfl⟩
 rw [if_neg lJ]at h ⊢;by_cases yV:pk L a=39
 ·rw [if_pos yV]at h ⊢;cases hs:gH L a with
  | error e=>rw [hs]at h;cases h
  | ok q=>
   obtain⟨s,k⟩:=q;obtain⟨hk,e1⟩:=Fv E ha _ _ hs;rw [hs]at h;rw [e1];simp only at h ⊢;injection h with h;injection h with h;injection h with h1 h2;injection h1 with h1 h3;subst h1 h2 h3;exact⟨hk,rfl⟩
 rw [if_neg yV]at h ⊢;by_cases yb:pk L a=92∨dG (pk L a)=true
 ·rw [if_pos yb]at h ⊢;cases hs:dz L a with
  | error e=>rw [hs]at h;cases h
  | ok q=>
   obtain⟨x,k⟩:=q;obtain⟨hk,e1⟩:=xY E _ _ _ hs;rw [hs]at h;rw [e1];simp only at h ⊢;by_cases hr:bL x=true
   ·rw [if_pos hr]at h ⊢;injection h with h;injection h with h;injection h with h1 h2;injection h1 with h1 h3;subst h1 h2 h3;exact⟨hk,rfl⟩
   rw [if_neg hr]at h;cases h
 rw [if_neg yb]at h;injection h with h;cases h
theorem IV (hL:dF L):∀ (f f' i:Nat) (out:List aI) (cur:Int) (v:List aI × Int) (j:Nat),f≤f'→i≤L.length→de L f i out cur=.ok (v,j)→i≤j∧j≤L.length∧(j<L.length→de L' f' (p+i) out cur=.ok (v,p+j)):=by
 intro f;induction f with
 | zero=>intro f' i out cur v j _ _ h;rw [de]at h;cases h
 | succ f ih=>
  intro f' i out cur v j hf hi h;obtain⟨f',rfl⟩:∃ g,f'=g+1:=⟨f' - 1,by omega⟩;have h0:=dP L i;have h1:=pz hi;rw [de]at h;cases he:cN L (aD L i) out cur with
  | error e=>rw [he]at h;cases h
  | ok q=>
   rw [he]at h;cases q with
   | none=>
    simp only at h;injection h with h;injection h with h3 h4;subst h3 h4;exact⟨h0,h1,fun hj=>by rw [de,gF E _ i rfl hi (.inl hj),yM E hj he]⟩
   | some q=>
    obtain⟨⟨o,c⟩,k⟩:=q;simp only at h;by_cases h20:20<o.length
    ·rw [if_pos h20]at h;cases h
    rw [if_neg h20]at h;obtain⟨g1,g2,g3⟩:=MW E hL he;obtain⟨k1,k2,k3⟩:=ih f' k o c v j (by omega) g2 h;refine⟨by omega,k2,fun hj=>?_⟩;rw [de,gF E _ i rfl hi (.inl (by omega)),g3];simp only;rw [if_neg h20];exact k3 hj
theorem kY (hL:dF L) {i:Nat} {v:List aI × Int} {j:Nat} (hi:i≤L.length) (h:cS L i=.ok (v,j)):i≤j∧j≤L.length∧(j<L.length→cS L' (p+i)=.ok (v,p+j)) :=
  IV E hL _ _ _ _ _ _ _ (by have:=E.len;omega) hi h
theorem Ny (hL:dF L) {start:Bool} {a:Nat} {v:List aI × List aI × Int} {j:Nat} (ha:a≤L.length) (h:eo L start a=.ok (v,j)):a≤j∧j≤L.length∧(j<L.length→eo L' start (p+a)=.ok (v,p+j)):=by
 unfold eo at h;cases hi:cS L a with
 | error e=>rw [hi]at h;cases h
 | ok q=>
  obtain⟨⟨l,c⟩,j1⟩:=q;obtain⟨g1,g2,g3⟩:=kY E hL ha hi;rw [hi]at h;simp only at h;by_cases rF:pk L j1=123
  ·have iJ:j1<L.length:=bO (by omega);rw [if_pos rF]at h;by_cases hc:0≤c
   ·rw [if_pos hc]at h;cases h
   rw [if_neg hc]at h;cases hi2:cS L (j1+1)with
   | error e=>rw [hi2]at h;cases h
   | ok q=>
    obtain⟨⟨l2,c2⟩,j2⟩:=q;obtain⟨k1,k2,k3⟩:=kY E hL iJ hi2;rw [hi2]at h;simp only at h;injection h with h;injection h with h3 h4;subst h3 h4;refine⟨by omega,k2,fun hj=>?_⟩;unfold eo;rw [g3 iJ];simp only;rw [E.pk iJ,if_pos rF,if_neg hc,show p+j1+1=p+(j1+1) from rfl,k3 hj]
  rw [if_neg rF]at h;by_cases hs:start=true
  ·rw [if_pos hs]at h;cases h
  rw [if_neg hs]at h;injection h with h;injection h with h3 h4;subst h3 h4;refine⟨g1,g2,fun hj=>?_⟩;unfold eo;rw [g3 hj];simp only;rw [E.pk hj,if_neg rF,if_neg hs]
theorem DC (hL:dF L) {i:Nat} {v:List aI × Bool} {j:Nat} (hi:i≤L.length) (h:eK L i=.ok (v,j)):i≤j∧j≤L.length∧(j<L.length→eK L' (p+i)=.ok (v,p+j)):=by
 unfold eK at h;by_cases vW:pk L i=125
 ·have hl:i<L.length:=bO (by omega);rw [if_pos vW]at h;cases hi2:cS L (i+1)with
  | error e=>rw [hi2]at h;cases h
  | ok q=>
   obtain⟨⟨l,c⟩,k⟩:=q;obtain⟨k1,k2,k3⟩:=kY E hL hl hi2;rw [hi2]at h;simp only at h;by_cases hc:0≤c
   ·rw [if_pos hc]at h;cases h
   rw [if_neg hc]at h;by_cases lJ:pk L k=36
   ·have gh:k<L.length:=bO (by omega);rw [if_pos lJ]at h;injection h with h;injection h with h3 h4;subst h3 h4;refine⟨by omega,gh,fun hj=>?_⟩;unfold eK;rw [E.pk hl,if_pos vW,show p+i+1=p+(i+1) from rfl,k3 gh];simp only;rw [if_neg hc,E.pk gh,if_pos lJ];rfl
   rw [if_neg lJ]at h;injection h with h;injection h with h3 h4;subst h3 h4;refine⟨by omega,k2,fun hj=>?_⟩;unfold eK;rw [E.pk hl,if_pos vW,show p+i+1=p+(i+1) from rfl,k3 hj];simp only;rw [if_neg hc,E.pk hj,if_neg lJ]
 rw [if_neg vW]at h;injection h with h;injection h with h3 h4;subst h3 h4;refine⟨qql,hi,fun hj=>?_⟩;unfold eK;rw [E.pk hj,if_neg vW]
theorem C3 (hL:dF L) {i:Nat} {v:cG} {j:Nat} (hi:i≤L.length) (h:ei L i=.ok (v,j)):aD L i≤j∧j≤L.length∧(j<L.length→ei L' (p+i)=.ok (v,p+j)):=by
 unfold ei at h;obtain⟨a0,ha0⟩:∃ a0,aD L i=a0:=⟨_,rfl⟩;rw [ha0]at h;have Zl:a0≤L.length:=(by rw [← ha0];exact pz hi);obtain⟨a1,mI⟩:∃ a1,(if pk L a0=94 then a0+1 else a0)=a1:=⟨_,rfl⟩;rw [mI]at h;have Zk:a0≤a1∧a1≤L.length:=by
  rw [← mI];split
  ·rename_i om;have:=bO (L:=L) (i:=a0) (by omega);omega
  exact⟨qql,Zl⟩
 cases hh:eo L (decide (pk L a0=94)) a1 with
 | error e=>rw [hh]at h;cases h
 | ok q=>
  obtain⟨⟨b,s,c⟩,j1⟩:=q;obtain⟨g1,g2,g3⟩:=Ny E hL Zk.2 hh;rw [hh]at h;simp only at h;cases ht:eK L j1 with
  | error e=>rw [ht]at h;cases h
  | ok q=>
   obtain⟨⟨a,fin⟩,k⟩:=q;obtain⟨k1,k2,k3⟩:=DC E hL g2 ht;rw [ht]at h;simp only at h;injection h with h;injection h with h3 h4;subst h3 h4;have h5:=dP L k;have h6:=pz k2;refine⟨by omega,h6,fun hj=>?_⟩;have Ck:a0<L.length:=(by omega);unfold ei;rw [gF E _ i rfl hi (.inl (by omega)),ha0,E.pk Ck,show(if pk L a0=94 then p+a0+1 else p+a0)=p+a1 by rw [← mI];split <;> rfl,g3 (by omega)];simp only;rw [k3 (by omega)];simp only;rw [gF E _ k rfl k2 (.inl hj)]
theorem zW {i:Nat} {d:Int} {j:Nat} (h:fu L i=.ok (d,j)):i<j∧j≤L.length∧fu L' (p+i)=.ok (d,p+j):=by
 unfold fu at h ⊢;by_cases KP:pk L i=62
 ·have hl:i<L.length:=bO (by omega);rw [if_pos KP]at h;injection h with h;injection h with h3 h4;subst h3 h4;rw [E.pk hl,if_pos KP];exact⟨by omega,hl,rfl⟩
 rw [if_neg KP]at h;by_cases uo:pk L i=60∧pk L (i+1)=62
 ·have hl:i<L.length:=bO (by omega);have gh:i+1<L.length:=bO (by omega);rw [if_pos uo]at h;injection h with h;injection h with h3 h4;subst h3 h4;rw [E.pk hl,show p+i+1=p+(i+1) from rfl,E.pk gh,if_neg KP,if_pos uo];exact⟨by omega,gh,rfl⟩
 rw [if_neg uo]at h;cases hn:bw L i 60 with
 | error e=>rw [hn]at h;cases h
 | ok k=>
  obtain⟨hk,e1⟩:=jM E hn (by decide);obtain⟨rfl,hp⟩:=gE hn;have hl:i<L.length:=hk;rw [hn]at h;simp only at h;injection h with h;injection h with h3 h4;subst h3 h4;have c1:=E.is (k:=i+1) hk (r:=62) (by decide) (by decide) (by decide);rw [E.pk hl,if_neg KP,show p+i+1=p+(i+1) from rfl,if_neg (fun x=>uo ⟨x.1,c1.1 x.2⟩),e1];exact⟨by omega,hk,rfl⟩
theorem Lr (hL:dF L) {i:Nat} {v:aK} {j:Nat} (hi:i≤L.length) (h:jL L i=.ok (v,j)):i≤j∧j≤L.length∧(j<L.length→jL L' (p+i)=.ok (v,p+j)):=by
 unfold jL at h;cases hs:ei L i with
 | error e=>rw [hs]at h;cases h
 | ok q=>
  obtain⟨l,a⟩:=q;obtain⟨g1,g2,g3⟩:=C3 E hL hi hs;rw [hs]at h;simp only at h;cases ha:fu L a with
  | error e=>rw [ha]at h;cases h
  | ok q=>
   obtain⟨d,k⟩:=q;obtain⟨k1,k2,k3⟩:=zW E ha;rw [ha]at h;simp only at h;cases vB:ei L k with
   | error e=>rw [vB]at h;cases h
   | ok q=>
    obtain⟨r,m⟩:=q;obtain⟨m1,m2,m3⟩:=C3 E hL k2 vB;rw [vB]at h;simp only at h;have h7:=dP L i;have h8:=dP L k;by_cases hw:iB ⟨2,eX,[],d,l,r⟩≠0
    ·rw [if_pos hw]at h;cases h
    rw [if_neg hw]at h;injection h with h;injection h with h3 h4;subst h3 h4;refine⟨by omega,m2,fun hj=>?_⟩;unfold jL;rw [g3 (by omega)];simp only;rw [k3];simp only;rw [m3 hj];simp only;rw [if_neg hw]
theorem NC (hL:dF L) {i:Nat} {v:aK} {j:Nat} (h:jN L i=.ok (v,j)):i≤j∧j≤L.length∧(j<L.length→jN L' (p+i)=.ok (v,p+j)):=by
 unfold jN at h;cases hn:bw L (i+1) 58 with
 | error e=>rw [hn]at h;cases h
 | ok a=>
  obtain⟨ha,e1⟩:=jM E hn (by decide);have h0:=(gE hn).1;rw [hn]at h;simp only at h;have h5:=dP L a;have h6:=pz ha;by_cases kU:pk L (aD L a)=91
  ·have hl:aD L a<L.length:=bO (by omega);rw [if_pos kU]at h;cases hs:bT L 20 (aD L a)with
   | error e=>rw [hs]at h;cases h
   | ok q=>
    obtain⟨s,k⟩:=q;obtain⟨k0,k1,k2⟩:=AI E hL 20 _ _ _ hs;rw [hs]at h;simp only at h;injection h with h;injection h with h3 h4;subst h3 h4;refine⟨by omega,k1,fun hj=>?_⟩;unfold jN;rw [show p+i+1=p+(i+1) from rfl,e1];simp only;rw [gF E _ a rfl ha (.inl hl),E.pk hl,if_pos kU,k2]
  rw [if_neg kU]at h;by_cases hb:gC (iL L (aD L a))=true
  ·rw [if_pos hb]at h;injection h with h;injection h with h3 h4;subst h3 h4;have h7:=xS L (aD L a);refine⟨by omega,lu h6,fun hj=>?_⟩;have hl:aD L a<L.length:=(by omega);unfold jN;rw [show p+i+1=p+(i+1) from rfl,e1];simp only;rw [gF E _ a rfl ha (.inl hl),E.pk hl,if_neg kU,zI E h6,if_pos hb,jV E h6]
  rw [if_neg hb]at h;cases h
theorem PF (hL:dF L) {i:Nat} {v:aK} {j:Nat} (hi:i<L.length) (h:pM L i=.ok (v,j)):i≤j∧j≤L.length∧(j<L.length→pM L' (p+i)=.ok (v,p+j)):=by
 unfold pM at h;cases hn:gU L (i+1)with
 | error e=>rw [hn]at h;cases h
 | ok q=>
  obtain⟨s,a⟩:=q;obtain⟨ha,e1⟩:=C5 E hi _ _ hn;have h0:=(mV hn).1;rw [hn]at h;simp only at h;cases hq:bw L (aD L a) 61 with
  | error e=>rw [hq]at h;cases h
  | ok k=>
   obtain⟨hk,e2⟩:=jM E hq (by decide);have h1:=(gE hq).1;have h2:=dP L a;rw [hq]at h;simp only at h;cases hs:bT L 20 (aD L k)with
   | error e=>rw [hs]at h;cases h
   | ok q=>
    obtain⟨t,m⟩:=q;obtain⟨k0,k1,k2⟩:=AI E hL 20 _ _ _ hs;have h4:=dP L k;rw [hs]at h;simp only at h;injection h with h;injection h with h3 h5;subst h3 h5;refine⟨by omega,k1,fun hj=>?_⟩;unfold pM;rw [show p+i+1=p+(i+1) from rfl,e1];simp only;rw [gF E _ a rfl ha (.inl (by omega)),e2];simp only;rw [gF E _ k rfl hk (.inl (by omega)),k2]
end
theorem CH {L:List Int} (hL:dF L) {i:Nat} {v:cG} {j:Nat} (lJ:pk L i=36) (h:ei L i=.ok (v,j)):j=i∨aD L (bC L (i+1))≤j:=by
 have E:KK 0 L L:=⟨fun k _=>by rw [Nat.zero_add],.inr (.inr (by rw [Nat.zero_add];exact qS qql))⟩;have e0:aD L i=i:=JL (by rw [lJ];decide) (by rw [lJ];decide);have hl:i<L.length:=bO (by omega);unfold ei at h;rw [e0,if_neg (by rw [lJ];decide),show decide (pk L i=94)=false by rw [lJ];decide]at h;unfold eo at h;cases hi:cS L i with
 | error e=>rw [hi]at h;cases h
 | ok q=>
  obtain⟨⟨l,c⟩,j1⟩:=q;have OO:=kY E hL (Nat.le_of_lt hl) hi;have key:j1=i∨aD L (bC L (i+1))≤j1:=by
   unfold cS at hi;rw [de,e0]at hi;unfold cN at hi;rw [if_neg (by rw [lJ];decide),if_neg (by rw [lJ];decide)]at hi;by_cases hc:pk L i=36∧kB (pk L (i+1))=true
   ·rw [if_pos hc]at hi;cases hs:gU L (i+1)with
    | error e=>rw [hs]at hi;cases hi
    | ok q=>
     obtain⟨s,k⟩:=q;have hk:=(mV hs).2.2.2;rw [hs]at hi;simp only at hi;split at hi
     ·cases hi
     have:=MB hL _ _ _ _ _ _ hi;rw [hk]at this;exact .inr this
   rw [if_neg hc,if_neg (by rw [lJ];decide),if_neg (by rw [lJ];decide)]at hi;simp only at hi;injection hi with hi;injection hi with h3 h4;exact .inl h4.symm
  rw [hi]at h;simp only at h;rcases key with rfl | key
  ·rw [if_neg (by rw [lJ];decide),if_neg (by decide)]at h;simp only at h;unfold eK at h;rw [if_neg (by rw [lJ];decide)]at h;simp only at h;injection h with h;injection h with h3 h4;rw [e0]at h4;exact .inl h4.symm
  right;have up:∀ (r:kG (List aI × List aI × Int)),(match r with | .error e=>Except.error e | .ok ((b,s,c),j)=>match eK L j with | .error e=>.error e | .ok ((a,fin),k)=>.ok ((⟨false,fin,b,s,a,c⟩:cG),aD L k))=.ok (v,j)→(∀ x k,r=.ok (x,k)→j1≤k∧k≤L.length)→j1≤j:=by
   intro r hr hk;cases r with
   | error e=>cases hr
   | ok q=>
    obtain⟨⟨b,s,c⟩,k⟩:=q;obtain⟨hk1,hk2⟩:=hk _ _ rfl;simp only at hr;cases ht:eK L k with
    | error e=>rw [ht]at hr;cases hr
    | ok q=>
     obtain⟨⟨a,fin⟩,m⟩:=q;have hm:=(DC E hL hk2 ht).1;rw [ht]at hr;simp only at hr;injection hr with hr;injection hr with h3 h4;have:=dP L m;omega
  refine Nat.le_trans key (up _ h ?_);intro x k hk;split at hk
  ·rename_i rF;have iJ:j1<L.length:=bO (by omega);split at hk
   ·cases hk
   cases hi2:cS L (j1+1)with
   | error e=>rw [hi2]at hk;cases hk
   | ok q=>
    obtain⟨⟨l2,c2⟩,j2⟩:=q;have:=kY E hL iJ hi2;rw [hi2]at hk;simp only at hk;injection hk with hk;injection hk with h3 h4;omega
  rw [if_neg (by decide)]at hk;injection hk with hk;injection hk with h3 h4;omega
theorem zZ {p:Nat} {L L':List Int} (E:KK p L L') (hL:dF L) {i:Nat} {v:aK} {j:Nat} (hi:i≤L.length) (h:ku L i=.ok (v,j)):i≤j∧j≤L.length∧(j<L.length→ku L' (p+i)=.ok (v,p+j)):=by
 unfold ku at h;by_cases wY:pk L i=58
 ·rw [if_pos wY]at h;have hl:i<L.length:=bO (by omega);obtain⟨g1,g2,g3⟩:=NC E hL h;refine⟨g1,g2,fun hj=>?_⟩;unfold ku;rw [E.pk hl,if_pos wY];exact g3 hj
 rw [if_neg wY]at h;by_cases lJ:pk L i=36∧pk L (aD L (bC L (i+1)))=61
 ·rw [if_pos lJ]at h;have hl:i<L.length:=bO (by omega);have gh:aD L (bC L (i+1))<L.length:=bO (by omega);obtain⟨g1,g2,g3⟩:=PF E hL hl h;refine⟨g1,g2,fun hj=>?_⟩;unfold ku;rw [E.pk hl,if_neg wY,show p+i+1=p+(i+1) from rfl,jV E hl,gF E _ _ rfl (lu hl) (.inl gh),E.pk gh,if_pos lJ];exact g3 hj
 rw [if_neg lJ]at h;obtain⟨g1,g2,g3⟩:=Lr E hL hi h;refine⟨g1,g2,fun hj=>?_⟩;have hl:i<L.length:=(by omega);unfold ku;rw [E.pk hl,if_neg wY,if_neg];exact g3 hj;rintro⟨x1,x2⟩;rw [show p+i+1=p+(i+1) from rfl,jV E hl]at x2;rcases Nat.lt_or_ge (aD L (bC L (i+1))) L.length with hs | hs
 ·rw [gF E _ _ rfl (lu hl) (.inl hs),E.pk hs]at x2;exact lJ ⟨x1,x2⟩
 unfold jL at h;cases hsd:ei L i with
 | error e=>rw [hsd]at h;cases h
 | ok q=>
  obtain⟨l,a⟩:=q;rw [hsd]at h;simp only at h;cases ha:fu L a with
  | error e=>rw [ha]at h;cases h
  | ok q=>
   obtain⟨d,k⟩:=q;have hk:=(zW E ha);rcases CH hL x1 hsd with rfl | hge
   ·unfold fu at ha;rw [if_neg (by omega),if_neg (fun x=>by have:=x.1;omega),zu (by omega)]at ha;cases ha
   omega
theorem MX {L:List Int} (hL:dF L) {i:Nat} {v:aK} {j:Nat} (hi:i≤L.length) (h:ku L i=.ok (v,j)):i≤j∧j≤L.length:=by
 have E:KK 0 L L:=⟨fun k _=>by rw [Nat.zero_add],.inr (.inr (by rw [Nat.zero_add];exact qS qql))⟩;exact⟨(zZ E hL hi h).1,(zZ E hL hi h).2.1⟩
end Go.Proofs.YtamkjeipdjbemaaGreatDoor
