/- Case -/
import Derived.Test.YthgkedoildcbcaaGreatDoorZgH
import Derived.Test.YthgkedoildcbcaaGreatDoorZg3
import Derived.Test.YthgkedoildcbcaaGreatDoorRows
import Derived.Deep.QuietTactic
set_option maxHeartbeats 1600000
set_option maxRecDepth 100000
namespace Go.Proofs.YthgkedoildcbcaaGreatDoor
open Go.RowKit
def mH:List (Int × Int × Int):=[(97,122,32),(224,246,32),(248,254,32),(945,961,32),(963,969,32),(1072,1103,32),(1104,1119,80)]
def Lb:List (Int × Int × Int)→Int→Int
  | [],r=>r
  | x::l,r=>if x.1≤r∧r≤x.2.1 then r - x.2.2 else Lb l r
def Dg:List (Int × Int × Int)→Int→Int
  | [],r=>r
  | x::l,r=>if x.1 - x.2.2≤r∧r≤x.2.1 - x.2.2 then r+x.2.2 else Dg l r
def LL (r:Int):Int:=Lb mH r
def vC (r:Int):Int:=Dg mH r
def fH:Array Value:=#[.int .i32 97,.int .i32 122,.int .i32 32,.int .i32 224,.int .i32 246,.int .i32 32,.int .i32 248,.int .i32 254,.int .i32 32,.int .i32 945,.int .i32 961,.int .i32 32,.int .i32 963,.int .i32 969,.int .i32 32,.int .i32 1072,.int .i32 1103,.int .i32 32,.int .i32 1104,.int .i32 1119,.int .i32 80]
theorem BK {k:Nat} {x:Int × Int × Int} (h:mH[k]? = some x):fH[k*3]? = some (.int .i32 x.1)∧fH[k*3+1]? = some (.int .i32 x.2.1)∧fH[k*3+2]? = some (.int .i32 x.2.2)∧0≤x.1 - x.2.2∧x.1≤1119∧x.2.1≤1119∧0≤x.2.2∧x.2.2≤80∧0≤x.2.1 - x.2.2:=by
 match k,h with
 | 0,h=>cases h;exact⟨rfl,rfl,rfl,by decide,by decide,by decide,by decide,by decide,by decide⟩
 | 1,h=>cases h;exact⟨rfl,rfl,rfl,by decide,by decide,by decide,by decide,by decide,by decide⟩
 | 2,h=>cases h;exact⟨rfl,rfl,rfl,by decide,by decide,by decide,by decide,by decide,by decide⟩
 | 3,h=>cases h;exact⟨rfl,rfl,rfl,by decide,by decide,by decide,by decide,by decide,by decide⟩
 | 4,h=>cases h;exact⟨rfl,rfl,rfl,by decide,by decide,by decide,by decide,by decide,by decide⟩
 | 5,h=>cases h;exact⟨rfl,rfl,rfl,by decide,by decide,by decide,by decide,by decide,by decide⟩
 | 6,h=>cases h;exact⟨rfl,rfl,rfl,by decide,by decide,by decide,by decide,by decide,by decide⟩
theorem Cc {k:Nat} {x:Int × Int × Int} (h:mH[k]? = some x):mH.drop k=x::mH.drop (k+1):=by
 obtain⟨hj,rfl⟩:=List.getElem?_eq_some_iff.1 h;exact List.drop_eq_getElem_cons hj
theorem vJ (w:World) :
    Calls Tryz.prog 117 #[] w fun e w'=>e=.returned (.slice (some ⟨w.heap.size,0,none⟩) 7 7)∧w'=w.alloc (.cells fH 195):=by
 go_enter Tryz.func117,Tryz.ntmps117;go_wp2_with fail;go_ret;exact⟨rfl,rfl⟩
def TZ (w:World) (r:Int) (i:Value) (wr:World):Prop:=∃ k:Nat,k≤7∧i=.int .i64 k∧LL r=Lb (mH.drop k) r∧ai wr w.heap.size 195 fH∧Below w.heap.size w wr
def Q3 (w:World) (r:Int) (i:Value) (wr:World):Prop:=∃ k:Nat,k≤7∧i=.int .i64 k∧vC r=Dg (mH.drop k) r∧ai wr w.heap.size 195 fH∧Below w.heap.size w wr
theorem B6 (r:Int) (w:World):Calls Tryz.prog 95 #[.int .i32 r] w fun e w'=>e=.returned (.int .i32 (LL r))∧Below w.heap.size w w':=by
 have HR:=qqh (vJ w);have dF:=qqh ((Below.refl w.heap.size w).alloc (Nat.le_refl _) (.cells fH 195));have gY:=qqh (ai.new w 195 fH);go_enter Tryz.func95,Tryz.ntmps95;go_wp2_with fail;refine HR.out.mono ?_;rintro e w1 ⟨rfl,rfl⟩;generalize w.alloc (.cells fH 195)=W0 at *;go_wp2_with fail;go_loopw [7] (TZ w r) (fun i _=>7 - (intOf i).toNat);(case atStart=>exact⟨0,Nat.zero_le _,rfl,rfl,gY.out,dF.out⟩);obtain⟨k,hk,rfl,aV,hkb,hb⟩:=hrel;by_cases hlt:k<7
 ·have Dv:decide ((k:Int)<7)=true:=decide_eq_true (by omega);obtain⟨x,hx⟩:∃ z,mH[k]? = some z:=⟨_,List.getElem?_eq_getElem hlt⟩;obtain⟨c0,c1,c2,b1,b2,b3,b4,b5,b6⟩:=BK hx;have d0:wr.cell? ⟨w.heap.size,k*3,none⟩=some (.int .i32 x.1):=(hkb.cell _).trans c0;have d1:wr.cell? ⟨w.heap.size,k*3+1,none⟩=some (.int .i32 x.2.1):=(hkb.cell _).trans c1;have d2:wr.cell? ⟨w.heap.size,k*3+2,none⟩=some (.int .i32 x.2.2):=(hkb.cell _).trans c2;rw [Cc hx,Lb]at aV;have dQ:=qqh aV;obtain⟨lo,hi,ah⟩:=x;dsimp only at *;have HK:=qqh (hkb.alloc (.cells #[.int .i32 lo,.int .i32 hi,.int .i32 ah] 195));have HB:=qqh (hb.alloc hb.size (.cells #[.int .i32 lo,.int .i32 hi,.int .i32 ah] 195));clear aV hkb hb c0 c1 c2 hx;by_cases h1:lo≤r
  ·by_cases h2:r≤hi
   ·have hw:IntKind.i32.wrap (r - ah)=r - ah:=(by rw [IntKind.wrap_i32];omega);have HG:=qqh (dQ.out.trans (if_pos ⟨h1,h2⟩));go_wp2_with fail;go_ret;exact⟨nG HG.out.symm,HB.out⟩
   have HG:=qqh (dQ.out.trans (if_neg (fun h=>h2 h.2)));go_wp2_with fail;exact⟨⟨k+1,by omega,by go_num,HG.out,HK.out,HB.out⟩,by simp [intOf];omega⟩
  have HG:=qqh (dQ.out.trans (if_neg (fun h=>h1 h.1)));go_wp2_with fail;exact⟨⟨k+1,by omega,by go_num,HG.out,HK.out,HB.out⟩,by simp [intOf];omega⟩
 obtain rfl:k=7:=(by omega);have HG:=qqh (aV.trans (show Lb (mH.drop 7) r=r from rfl));clear aV hkb;go_wp2_with fail;go_ret;exact⟨nG HG.out.symm,hb⟩
theorem CH (r:Int) (w:World):Calls Tryz.prog 96 #[.int .i32 r] w fun e w'=>e=.returned (.int .i32 (vC r))∧Below w.heap.size w w':=by
 have HR:=qqh (vJ w);have dF:=qqh ((Below.refl w.heap.size w).alloc (Nat.le_refl _) (.cells fH 195));have gY:=qqh (ai.new w 195 fH);go_enter Tryz.func96,Tryz.ntmps96;go_wp2_with fail;refine HR.out.mono ?_;rintro e w1 ⟨rfl,rfl⟩;generalize w.alloc (.cells fH 195)=W0 at *;go_wp2_with fail;go_loopw [7] (Q3 w r) (fun i _=>7 - (intOf i).toNat);(case atStart=>exact⟨0,Nat.zero_le _,rfl,rfl,gY.out,dF.out⟩);obtain⟨k,hk,rfl,aV,hkb,hb⟩:=hrel;by_cases hlt:k<7
 ·have Dv:decide ((k:Int)<7)=true:=decide_eq_true (by omega);obtain⟨x,hx⟩:∃ z,mH[k]? = some z:=⟨_,List.getElem?_eq_getElem hlt⟩;obtain⟨c0,c1,c2,b1,b2,b3,b4,b5,b6⟩:=BK hx;have d0:wr.cell? ⟨w.heap.size,k*3,none⟩=some (.int .i32 x.1):=(hkb.cell _).trans c0;have d1:wr.cell? ⟨w.heap.size,k*3+1,none⟩=some (.int .i32 x.2.1):=(hkb.cell _).trans c1;have d2:wr.cell? ⟨w.heap.size,k*3+2,none⟩=some (.int .i32 x.2.2):=(hkb.cell _).trans c2;rw [Cc hx,Dg]at aV;have dQ:=qqh aV;obtain⟨lo,hi,ah⟩:=x;dsimp only at *;have HK:=qqh (hkb.alloc (.cells #[.int .i32 lo,.int .i32 hi,.int .i32 ah] 195));have HB:=qqh (hb.alloc hb.size (.cells #[.int .i32 lo,.int .i32 hi,.int .i32 ah] 195));have hw1:IntKind.i32.wrap (lo - ah)=lo - ah:=(by rw [IntKind.wrap_i32];omega);have xP:IntKind.i32.wrap (hi - ah)=hi - ah:=(by rw [IntKind.wrap_i32];omega);clear aV hkb hb c0 c1 c2 hx;by_cases h1:lo - ah≤r
  ·by_cases h2:r≤hi - ah
   ·have hw:IntKind.i32.wrap (r+ah)=r+ah:=(by rw [IntKind.wrap_i32];omega);have HG:=qqh (dQ.out.trans (if_pos ⟨h1,h2⟩));go_wp2_with fail;go_ret;exact⟨nG HG.out.symm,HB.out⟩
   have HG:=qqh (dQ.out.trans (if_neg (fun h=>h2 h.2)));go_wp2_with fail;exact⟨⟨k+1,by omega,by go_num,HG.out,HK.out,HB.out⟩,by simp [intOf];omega⟩
  have HG:=qqh (dQ.out.trans (if_neg (fun h=>h1 h.1)));go_wp2_with fail;exact⟨⟨k+1,by omega,by go_num,HG.out,HK.out,HB.out⟩,by simp [intOf];omega⟩
 obtain rfl:k=7:=(by omega);have HG:=qqh (aV.trans (show Dg (mH.drop 7) r=r from rfl));clear aV hkb;go_wp2_with fail;go_ret;exact⟨nG HG.out.symm,hb⟩
end Go.Proofs.YthgkedoildcbcaaGreatDoor
