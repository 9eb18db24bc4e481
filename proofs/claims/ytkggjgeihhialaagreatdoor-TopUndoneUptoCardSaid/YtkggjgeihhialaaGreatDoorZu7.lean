/- Case -/
import Derived.Test.YtkggjgeihhialaaGreatDoorZuH
import Derived.Test.YtkggjgeihhialaaGreatDoorZu3
import Derived.Test.YtkggjgeihhialaaGreatDoorRows
import Derived.Deep.QuietTactic
set_option maxHeartbeats 1600000
set_option maxRecDepth 100000
namespace Go.Proofs.YtkggjgeihhialaaGreatDoor
open Go.RowKit
def mY:List (Int × Int × Int):=[(97,122,32),(224,246,32),(248,254,32),(945,961,32),(963,969,32),(1072,1103,32),(1104,1119,80)]
def LU:List (Int × Int × Int)→Int→Int
  | [],r=>r
  | x::l,r=>if x.1≤r∧r≤x.2.1 then r - x.2.2 else LU l r
def CU:List (Int × Int × Int)→Int→Int
  | [],r=>r
  | x::l,r=>if x.1 - x.2.2≤r∧r≤x.2.1 - x.2.2 then r+x.2.2 else CU l r
def L9 (r:Int):Int:=LU mY r
def wT (r:Int):Int:=CU mY r
def fJ:Array Value:=#[.int .i32 97,.int .i32 122,.int .i32 32,.int .i32 224,.int .i32 246,.int .i32 32,.int .i32 248,.int .i32 254,.int .i32 32,.int .i32 945,.int .i32 961,.int .i32 32,.int .i32 963,.int .i32 969,.int .i32 32,.int .i32 1072,.int .i32 1103,.int .i32 32,.int .i32 1104,.int .i32 1119,.int .i32 80]
theorem BY {k:Nat} {x:Int × Int × Int} (h:mY[k]? = some x):fJ[k*3]? = some (.int .i32 x.1)∧fJ[k*3+1]? = some (.int .i32 x.2.1)∧fJ[k*3+2]? = some (.int .i32 x.2.2)∧0≤x.1 - x.2.2∧x.1≤1119∧x.2.1≤1119∧0≤x.2.2∧x.2.2≤80∧0≤x.2.1 - x.2.2:=by
 match k,h with
 | 0,h=>cases h;exact⟨rfl,rfl,rfl,by decide,by decide,by decide,by decide,by decide,by decide⟩
 | 1,h=>cases h;exact⟨rfl,rfl,rfl,by decide,by decide,by decide,by decide,by decide,by decide⟩
 | 2,h=>cases h;exact⟨rfl,rfl,rfl,by decide,by decide,by decide,by decide,by decide,by decide⟩
 | 3,h=>cases h;exact⟨rfl,rfl,rfl,by decide,by decide,by decide,by decide,by decide,by decide⟩
 | 4,h=>cases h;exact⟨rfl,rfl,rfl,by decide,by decide,by decide,by decide,by decide,by decide⟩
 | 5,h=>cases h;exact⟨rfl,rfl,rfl,by decide,by decide,by decide,by decide,by decide,by decide⟩
 | 6,h=>cases h;exact⟨rfl,rfl,rfl,by decide,by decide,by decide,by decide,by decide,by decide⟩
theorem DQ {k:Nat} {x:Int × Int × Int} (h:mY[k]? = some x):mY.drop k=x::mY.drop (k+1):=by
 obtain⟨hj,rfl⟩:=List.getElem?_eq_some_iff.1 h;exact List.drop_eq_getElem_cons hj
theorem wK (w:World) :
    Calls Tryz.prog 106 #[] w fun e w'=>e=.returned (.slice (some ⟨w.heap.size,0,none⟩) 7 7)∧w'=w.alloc (.cells fJ 176):=by
 go_enter Tryz.func106,Tryz.ntmps106;go_wp2_with fail;go_ret;exact⟨rfl,rfl⟩
def U3 (w:World) (r:Int) (i:Value) (wr:World):Prop:=∃ k:Nat,k≤7∧i=.int .i64 k∧L9 r=LU (mY.drop k) r∧aj wr w.heap.size 176 fJ∧Below w.heap.size w wr
def Rc (w:World) (r:Int) (i:Value) (wr:World):Prop:=∃ k:Nat,k≤7∧i=.int .i64 k∧wT r=CU (mY.drop k) r∧aj wr w.heap.size 176 fJ∧Below w.heap.size w wr
theorem DH (r:Int) (w:World):Calls Tryz.prog 86 #[.int .i32 r] w fun e w'=>e=.returned (.int .i32 (L9 r))∧Below w.heap.size w w':=by
 have HR:=qqh (wK w);have dY:=qqh ((Below.refl w.heap.size w).alloc (Nat.le_refl _) (.cells fJ 176));have ir:=qqh (aj.new w 176 fJ);go_enter Tryz.func86,Tryz.ntmps86;go_wp2_with fail;refine HR.out.mono ?_;rintro e w1 ⟨rfl,rfl⟩;generalize w.alloc (.cells fJ 176)=W0 at *;go_wp2_with fail;go_loopw [7] (U3 w r) (fun i _=>7 - (intOf i).toNat);(case atStart=>exact⟨0,Nat.zero_le _,rfl,rfl,ir.out,dY.out⟩);obtain⟨k,hk,rfl,aV,hkb,hb⟩:=hrel;by_cases hlt:k<7
 ·have Ej:decide ((k:Int)<7)=true:=decide_eq_true (by omega);obtain⟨x,hx⟩:∃ z,mY[k]? = some z:=⟨_,List.getElem?_eq_getElem hlt⟩;obtain⟨c0,c1,c2,b1,b2,b3,b4,b5,b6⟩:=BY hx;have d0:wr.cell? ⟨w.heap.size,k*3,none⟩=some (.int .i32 x.1):=(hkb.cell _).trans c0;have d1:wr.cell? ⟨w.heap.size,k*3+1,none⟩=some (.int .i32 x.2.1):=(hkb.cell _).trans c1;have d2:wr.cell? ⟨w.heap.size,k*3+2,none⟩=some (.int .i32 x.2.2):=(hkb.cell _).trans c2;rw [DQ hx,LU]at aV;have dO:=qqh aV;obtain⟨lo,hi,ah⟩:=x;dsimp only at *;have HK:=qqh (hkb.alloc (.cells #[.int .i32 lo,.int .i32 hi,.int .i32 ah] 176));have HB:=qqh (hb.alloc hb.size (.cells #[.int .i32 lo,.int .i32 hi,.int .i32 ah] 176));clear aV hkb hb c0 c1 c2 hx;by_cases h1:lo≤r
  ·by_cases h2:r≤hi
   ·have hw:IntKind.i32.wrap (r - ah)=r - ah:=(by rw [IntKind.wrap_i32];omega);have HG:=qqh (dO.out.trans (if_pos ⟨h1,h2⟩));go_wp2_with fail;go_ret;exact⟨nV HG.out.symm,HB.out⟩
   have HG:=qqh (dO.out.trans (if_neg (fun h=>h2 h.2)));go_wp2_with fail;exact⟨⟨k+1,by omega,by go_num,HG.out,HK.out,HB.out⟩,by simp [intOf];omega⟩
  have HG:=qqh (dO.out.trans (if_neg (fun h=>h1 h.1)));go_wp2_with fail;exact⟨⟨k+1,by omega,by go_num,HG.out,HK.out,HB.out⟩,by simp [intOf];omega⟩
 obtain rfl:k=7:=(by omega);have HG:=qqh (aV.trans (show LU (mY.drop 7) r=r from rfl));clear aV hkb;go_wp2_with fail;go_ret;exact⟨nV HG.out.symm,hb⟩
theorem Dq (r:Int) (w:World):Calls Tryz.prog 87 #[.int .i32 r] w fun e w'=>e=.returned (.int .i32 (wT r))∧Below w.heap.size w w':=by
 have HR:=qqh (wK w);have dY:=qqh ((Below.refl w.heap.size w).alloc (Nat.le_refl _) (.cells fJ 176));have ir:=qqh (aj.new w 176 fJ);go_enter Tryz.func87,Tryz.ntmps87;go_wp2_with fail;refine HR.out.mono ?_;rintro e w1 ⟨rfl,rfl⟩;generalize w.alloc (.cells fJ 176)=W0 at *;go_wp2_with fail;go_loopw [7] (Rc w r) (fun i _=>7 - (intOf i).toNat);(case atStart=>exact⟨0,Nat.zero_le _,rfl,rfl,ir.out,dY.out⟩);obtain⟨k,hk,rfl,aV,hkb,hb⟩:=hrel;by_cases hlt:k<7
 ·have Ej:decide ((k:Int)<7)=true:=decide_eq_true (by omega);obtain⟨x,hx⟩:∃ z,mY[k]? = some z:=⟨_,List.getElem?_eq_getElem hlt⟩;obtain⟨c0,c1,c2,b1,b2,b3,b4,b5,b6⟩:=BY hx;have d0:wr.cell? ⟨w.heap.size,k*3,none⟩=some (.int .i32 x.1):=(hkb.cell _).trans c0;have d1:wr.cell? ⟨w.heap.size,k*3+1,none⟩=some (.int .i32 x.2.1):=(hkb.cell _).trans c1;have d2:wr.cell? ⟨w.heap.size,k*3+2,none⟩=some (.int .i32 x.2.2):=(hkb.cell _).trans c2;rw [DQ hx,CU]at aV;have dO:=qqh aV;obtain⟨lo,hi,ah⟩:=x;dsimp only at *;have HK:=qqh (hkb.alloc (.cells #[.int .i32 lo,.int .i32 hi,.int .i32 ah] 176));have HB:=qqh (hb.alloc hb.size (.cells #[.int .i32 lo,.int .i32 hi,.int .i32 ah] 176));have hw1:IntKind.i32.wrap (lo - ah)=lo - ah:=(by rw [IntKind.wrap_i32];omega);have xU:IntKind.i32.wrap (hi - ah)=hi - ah:=(by rw [IntKind.wrap_i32];omega);clear aV hkb hb c0 c1 c2 hx;by_cases h1:lo - ah≤r
  ·by_cases h2:r≤hi - ah
   ·have hw:IntKind.i32.wrap (r+ah)=r+ah:=(by rw [IntKind.wrap_i32];omega);have HG:=qqh (dO.out.trans (if_pos ⟨h1,h2⟩));go_wp2_with fail;go_ret;exact⟨nV HG.out.symm,HB.out⟩
   have HG:=qqh (dO.out.trans (if_neg (fun h=>h2 h.2)));go_wp2_with fail;exact⟨⟨k+1,by omega,by go_num,HG.out,HK.out,HB.out⟩,by simp [intOf];omega⟩
  have HG:=qqh (dO.out.trans (if_neg (fun h=>h1 h.1)));go_wp2_with fail;exact⟨⟨k+1,by omega,by go_num,HG.out,HK.out,HB.out⟩,by simp [intOf];omega⟩
 obtain rfl:k=7:=(by omega);have HG:=qqh (aV.trans (show CU (mY.drop 7) r=r from rfl));clear aV hkb;go_wp2_with fail;go_ret;exact⟨nV HG.out.symm,hb⟩
end Go.Proofs.YtkggjgeihhialaaGreatDoor
