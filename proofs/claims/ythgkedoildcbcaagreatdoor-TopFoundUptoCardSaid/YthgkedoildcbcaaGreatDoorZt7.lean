/- Case -/
import Derived.Test.YthgkedoildcbcaaGreatDoorZtH
import Derived.Test.YthgkedoildcbcaaGreatDoorZt3
import Derived.Test.YthgkedoildcbcaaGreatDoorRows
import Derived.Deep.QuietTactic
set_option maxHeartbeats 1600000
set_option maxRecDepth 100000
namespace Go.Proofs.YthgkedoildcbcaaGreatDoor
open Go.RowKit
def l9:List (Int × Int × Int):=[(97,122,32),(224,246,32),(248,254,32),(945,961,32),(963,969,32),(1072,1103,32),(1104,1119,80)]
def IV:List (Int × Int × Int)→Int→Int
  | [],r=>r
  | x::l,r=>if x.1≤r∧r≤x.2.1 then r - x.2.2 else IV l r
def zW:List (Int × Int × Int)→Int→Int
  | [],r=>r
  | x::l,r=>if x.1 - x.2.2≤r∧r≤x.2.1 - x.2.2 then r+x.2.2 else zW l r
def IP (r:Int):Int:=IV l9 r
def tX (r:Int):Int:=zW l9 r
def gE:Array Value:=#[.int .i32 97,.int .i32 122,.int .i32 32,.int .i32 224,.int .i32 246,.int .i32 32,.int .i32 248,.int .i32 254,.int .i32 32,.int .i32 945,.int .i32 961,.int .i32 32,.int .i32 963,.int .i32 969,.int .i32 32,.int .i32 1072,.int .i32 1103,.int .i32 32,.int .i32 1104,.int .i32 1119,.int .i32 80]
theorem DT {k:Nat} {x:Int × Int × Int} (h:l9[k]? = some x):gE[k*3]? = some (.int .i32 x.1)∧gE[k*3+1]? = some (.int .i32 x.2.1)∧gE[k*3+2]? = some (.int .i32 x.2.2)∧0≤x.1 - x.2.2∧x.1≤1119∧x.2.1≤1119∧0≤x.2.2∧x.2.2≤80∧0≤x.2.1 - x.2.2:=by
 match k,h with
 | 0,h=>cases h;exact⟨rfl,rfl,rfl,by decide,by decide,by decide,by decide,by decide,by decide⟩
 | 1,h=>cases h;exact⟨rfl,rfl,rfl,by decide,by decide,by decide,by decide,by decide,by decide⟩
 | 2,h=>cases h;exact⟨rfl,rfl,rfl,by decide,by decide,by decide,by decide,by decide,by decide⟩
 | 3,h=>cases h;exact⟨rfl,rfl,rfl,by decide,by decide,by decide,by decide,by decide,by decide⟩
 | 4,h=>cases h;exact⟨rfl,rfl,rfl,by decide,by decide,by decide,by decide,by decide,by decide⟩
 | 5,h=>cases h;exact⟨rfl,rfl,rfl,by decide,by decide,by decide,by decide,by decide,by decide⟩
 | 6,h=>cases h;exact⟨rfl,rfl,rfl,by decide,by decide,by decide,by decide,by decide,by decide⟩
theorem DC {k:Nat} {x:Int × Int × Int} (h:l9[k]? = some x):l9.drop k=x::l9.drop (k+1):=by
 obtain⟨hj,rfl⟩:=List.getElem?_eq_some_iff.1 h;exact List.drop_eq_getElem_cons hj
theorem wU (w:World) :
    Calls Tryz.prog 117 #[] w fun e w'=>e=.returned (.slice (some ⟨w.heap.size,0,none⟩) 7 7)∧w'=w.alloc (.cells gE 195):=by
 go_enter Tryz.func117,Tryz.ntmps117;go_wp2_with fail;go_ret;exact⟨rfl,rfl⟩
def U2 (w:World) (r:Int) (i:Value) (wr:World):Prop:=∃ k:Nat,k≤7∧i=.int .i64 k∧IP r=IV (l9.drop k) r∧ai wr w.heap.size 195 gE∧Below w.heap.size w wr
def RC (w:World) (r:Int) (i:Value) (wr:World):Prop:=∃ k:Nat,k≤7∧i=.int .i64 k∧tX r=zW (l9.drop k) r∧ai wr w.heap.size 195 gE∧Below w.heap.size w wr
theorem CN (r:Int) (w:World):Calls Tryz.prog 95 #[.int .i32 r] w fun e w'=>e=.returned (.int .i32 (IP r))∧Below w.heap.size w w':=by
 have HR:=qqh (wU w);have dO:=qqh ((Below.refl w.heap.size w).alloc (Nat.le_refl _) (.cells gE 195));have ja:=qqh (ai.new w 195 gE);go_enter Tryz.func95,Tryz.ntmps95;go_wp2_with fail;refine HR.out.mono ?_;rintro e w1 ⟨rfl,rfl⟩;generalize w.alloc (.cells gE 195)=W0 at *;go_wp2_with fail;go_loopw [7] (U2 w r) (fun i _=>7 - (intOf i).toNat);(case atStart=>exact⟨0,Nat.zero_le _,rfl,rfl,ja.out,dO.out⟩);obtain⟨k,hk,rfl,aX,hkb,hb⟩:=hrel;by_cases hlt:k<7
 ·have EX:decide ((k:Int)<7)=true:=decide_eq_true (by omega);obtain⟨x,hx⟩:∃ z,l9[k]? = some z:=⟨_,List.getElem?_eq_getElem hlt⟩;obtain⟨c0,c1,c2,b1,b2,b3,b4,b5,b6⟩:=DT hx;have d0:wr.cell? ⟨w.heap.size,k*3,none⟩=some (.int .i32 x.1):=(hkb.cell _).trans c0;have d1:wr.cell? ⟨w.heap.size,k*3+1,none⟩=some (.int .i32 x.2.1):=(hkb.cell _).trans c1;have d2:wr.cell? ⟨w.heap.size,k*3+2,none⟩=some (.int .i32 x.2.2):=(hkb.cell _).trans c2;rw [DC hx,IV]at aX;have dY:=qqh aX;obtain⟨lo,hi,ah⟩:=x;dsimp only at *;have HK:=qqh (hkb.alloc (.cells #[.int .i32 lo,.int .i32 hi,.int .i32 ah] 195));have HB:=qqh (hb.alloc hb.size (.cells #[.int .i32 lo,.int .i32 hi,.int .i32 ah] 195));clear aX hkb hb c0 c1 c2 hx;by_cases h1:lo≤r
  ·by_cases h2:r≤hi
   ·have hw:IntKind.i32.wrap (r - ah)=r - ah:=(by rw [IntKind.wrap_i32];omega);have HG:=qqh (dY.out.trans (if_pos ⟨h1,h2⟩));go_wp2_with fail;go_ret;exact⟨pR HG.out.symm,HB.out⟩
   have HG:=qqh (dY.out.trans (if_neg (fun h=>h2 h.2)));go_wp2_with fail;exact⟨⟨k+1,by omega,by go_num,HG.out,HK.out,HB.out⟩,by simp [intOf];omega⟩
  have HG:=qqh (dY.out.trans (if_neg (fun h=>h1 h.1)));go_wp2_with fail;exact⟨⟨k+1,by omega,by go_num,HG.out,HK.out,HB.out⟩,by simp [intOf];omega⟩
 obtain rfl:k=7:=(by omega);have HG:=qqh (aX.trans (show IV (l9.drop 7) r=r from rfl));clear aX hkb;go_wp2_with fail;go_ret;exact⟨pR HG.out.symm,hb⟩
theorem Ec (r:Int) (w:World):Calls Tryz.prog 96 #[.int .i32 r] w fun e w'=>e=.returned (.int .i32 (tX r))∧Below w.heap.size w w':=by
 have HR:=qqh (wU w);have dO:=qqh ((Below.refl w.heap.size w).alloc (Nat.le_refl _) (.cells gE 195));have ja:=qqh (ai.new w 195 gE);go_enter Tryz.func96,Tryz.ntmps96;go_wp2_with fail;refine HR.out.mono ?_;rintro e w1 ⟨rfl,rfl⟩;generalize w.alloc (.cells gE 195)=W0 at *;go_wp2_with fail;go_loopw [7] (RC w r) (fun i _=>7 - (intOf i).toNat);(case atStart=>exact⟨0,Nat.zero_le _,rfl,rfl,ja.out,dO.out⟩);obtain⟨k,hk,rfl,aX,hkb,hb⟩:=hrel;by_cases hlt:k<7
 ·have EX:decide ((k:Int)<7)=true:=decide_eq_true (by omega);obtain⟨x,hx⟩:∃ z,l9[k]? = some z:=⟨_,List.getElem?_eq_getElem hlt⟩;obtain⟨c0,c1,c2,b1,b2,b3,b4,b5,b6⟩:=DT hx;have d0:wr.cell? ⟨w.heap.size,k*3,none⟩=some (.int .i32 x.1):=(hkb.cell _).trans c0;have d1:wr.cell? ⟨w.heap.size,k*3+1,none⟩=some (.int .i32 x.2.1):=(hkb.cell _).trans c1;have d2:wr.cell? ⟨w.heap.size,k*3+2,none⟩=some (.int .i32 x.2.2):=(hkb.cell _).trans c2;rw [DC hx,zW]at aX;have dY:=qqh aX;obtain⟨lo,hi,ah⟩:=x;dsimp only at *;have HK:=qqh (hkb.alloc (.cells #[.int .i32 lo,.int .i32 hi,.int .i32 ah] 195));have HB:=qqh (hb.alloc hb.size (.cells #[.int .i32 lo,.int .i32 hi,.int .i32 ah] 195));have hw1:IntKind.i32.wrap (lo - ah)=lo - ah:=(by rw [IntKind.wrap_i32];omega);have E5:IntKind.i32.wrap (hi - ah)=hi - ah:=(by rw [IntKind.wrap_i32];omega);clear aX hkb hb c0 c1 c2 hx;by_cases h1:lo - ah≤r
  ·by_cases h2:r≤hi - ah
   ·have hw:IntKind.i32.wrap (r+ah)=r+ah:=(by rw [IntKind.wrap_i32];omega);have HG:=qqh (dY.out.trans (if_pos ⟨h1,h2⟩));go_wp2_with fail;go_ret;exact⟨pR HG.out.symm,HB.out⟩
   have HG:=qqh (dY.out.trans (if_neg (fun h=>h2 h.2)));go_wp2_with fail;exact⟨⟨k+1,by omega,by go_num,HG.out,HK.out,HB.out⟩,by simp [intOf];omega⟩
  have HG:=qqh (dY.out.trans (if_neg (fun h=>h1 h.1)));go_wp2_with fail;exact⟨⟨k+1,by omega,by go_num,HG.out,HK.out,HB.out⟩,by simp [intOf];omega⟩
 obtain rfl:k=7:=(by omega);have HG:=qqh (aX.trans (show zW (l9.drop 7) r=r from rfl));clear aX hkb;go_wp2_with fail;go_ret;exact⟨pR HG.out.symm,hb⟩
theorem aao (r:Int):IP r=if (97≤r∧r≤122)∨((224≤r∧r≤254)∧r≠247)∨((945≤r∧r≤969)∧r≠962)∨(1072≤r∧r≤1103)then r - 32 else if 1104≤r∧r≤1119 then r - 80 else r:=by
 simp only [IP,l9,IV];(repeat' split);(all_goals omega)
theorem YJ (r:Int):tX r=if (65≤r∧r≤90)∨((192≤r∧r≤222)∧r≠215)∨((913≤r∧r≤937)∧r≠930)∨(1040≤r∧r≤1071)then r+32 else if 1024≤r∧r≤1039 then r+80 else r:=by
 simp only [tX,l9,zW];(repeat' split);(all_goals omega)
end Go.Proofs.YthgkedoildcbcaaGreatDoor
