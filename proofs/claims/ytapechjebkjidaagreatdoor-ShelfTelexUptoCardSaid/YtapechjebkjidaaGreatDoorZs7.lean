/- Case -/
import Derived.Test.YtapechjebkjidaaGreatDoorZs2
import Derived.Test.YtapechjebkjidaaGreatDoorRows
import Derived.Deep.QuietTactic
set_option maxHeartbeats 1600000
set_option maxRecDepth 100000
namespace Go.Proofs.YtapechjebkjidaaGreatDoor
open Go.RowKit
def lP:List (Int × Int × Int):=[(97,122,32),(224,246,32),(248,254,32),(945,961,32),(963,969,32),(1072,1103,32),(1104,1119,80)]
def Jg:List (Int × Int × Int)→Int→Int
  | [],r=>r
  | x::l,r=>if x.1≤r∧r≤x.2.1 then r - x.2.2 else Jg l r
def AW:List (Int × Int × Int)→Int→Int
  | [],r=>r
  | x::l,r=>if x.1 - x.2.2≤r∧r≤x.2.1 - x.2.2 then r+x.2.2 else AW l r
def KM (r:Int):Int:=Jg lP r
def qx (r:Int):Int:=AW lP r
def gh:Array Value:=#[.int .i32 97,.int .i32 122,.int .i32 32,.int .i32 224,.int .i32 246,.int .i32 32,.int .i32 248,.int .i32 254,.int .i32 32,.int .i32 945,.int .i32 961,.int .i32 32,.int .i32 963,.int .i32 969,.int .i32 32,.int .i32 1072,.int .i32 1103,.int .i32 32,.int .i32 1104,.int .i32 1119,.int .i32 80]
theorem Ek {k:Nat} {x:Int × Int × Int} (h:lP[k]? = some x):gh[k*3]? = some (.int .i32 x.1)∧gh[k*3+1]? = some (.int .i32 x.2.1)∧gh[k*3+2]? = some (.int .i32 x.2.2)∧0≤x.1 - x.2.2∧x.1≤1119∧x.2.1≤1119∧0≤x.2.2∧x.2.2≤80∧0≤x.2.1 - x.2.2:=by
 match k,h with
 | 0,h=>cases h;exact⟨rfl,rfl,rfl,by decide,by decide,by decide,by decide,by decide,by decide⟩
 | 1,h=>cases h;exact⟨rfl,rfl,rfl,by decide,by decide,by decide,by decide,by decide,by decide⟩
 | 2,h=>cases h;exact⟨rfl,rfl,rfl,by decide,by decide,by decide,by decide,by decide,by decide⟩
 | 3,h=>cases h;exact⟨rfl,rfl,rfl,by decide,by decide,by decide,by decide,by decide,by decide⟩
 | 4,h=>cases h;exact⟨rfl,rfl,rfl,by decide,by decide,by decide,by decide,by decide,by decide⟩
 | 5,h=>cases h;exact⟨rfl,rfl,rfl,by decide,by decide,by decide,by decide,by decide,by decide⟩
 | 6,h=>cases h;exact⟨rfl,rfl,rfl,by decide,by decide,by decide,by decide,by decide,by decide⟩
theorem C8 {k:Nat} {x:Int × Int × Int} (h:lP[k]? = some x):lP.drop k=x::lP.drop (k+1):=by
 obtain⟨hj,rfl⟩:=List.getElem?_eq_some_iff.1 h;exact List.drop_eq_getElem_cons hj
theorem yq (w:World) :
    Calls Tryz.prog 116 #[] w fun e w'=>e=.returned (.slice (some ⟨w.heap.size,0,none⟩) 7 7)∧w'=w.alloc (.cells gh 172):=by
 go_enter Tryz.func116,Tryz.ntmps116;go_wp2_with fail;go_ret;exact⟨rfl,rfl⟩
def Vd (w:World) (r:Int) (i:Value) (wr:World):Prop:=∃ k:Nat,k≤7∧i=.int .i64 k∧KM r=Jg (lP.drop k) r∧ak wr w.heap.size 172 gh∧Below w.heap.size w wr
def SI (w:World) (r:Int) (i:Value) (wr:World):Prop:=∃ k:Nat,k≤7∧i=.int .i64 k∧qx r=AW (lP.drop k) r∧ak wr w.heap.size 172 gh∧Below w.heap.size w wr
theorem EF (r:Int) (w:World):Calls Tryz.prog 96 #[.int .i32 r] w fun e w'=>e=.returned (.int .i32 (KM r))∧Below w.heap.size w w':=by
 have HR:=Lib.hid (yq w);have ek:=Lib.hid ((Below.refl w.heap.size w).alloc (Nat.le_refl _) (.cells gh 172));have iO:=Lib.hid (ak.new w 172 gh);go_enter Tryz.func96,Tryz.ntmps96;go_wp2_with fail;refine HR.out.mono ?_;rintro e w1 ⟨rfl,rfl⟩;generalize w.alloc (.cells gh 172)=W0 at *;go_wp2_with fail;go_loopw [7] (Vd w r) (fun i _=>7 - (intOf i).toNat);(case atStart=>exact⟨0,Nat.zero_le _,rfl,rfl,iO.out,ek.out⟩);obtain⟨k,hk,rfl,bf,hkb,hb⟩:=hrel;by_cases hlt:k<7
 ·have Fp:decide ((k:Int)<7)=true:=decide_eq_true (by omega);obtain⟨x,hx⟩:∃ z,lP[k]? = some z:=⟨_,List.getElem?_eq_getElem hlt⟩;obtain⟨c0,c1,c2,b1,b2,b3,b4,b5,b6⟩:=Ek hx;have d0:wr.cell? ⟨w.heap.size,k*3,none⟩=some (.int .i32 x.1):=(hkb.cell _).trans c0;have d1:wr.cell? ⟨w.heap.size,k*3+1,none⟩=some (.int .i32 x.2.1):=(hkb.cell _).trans c1;have d2:wr.cell? ⟨w.heap.size,k*3+2,none⟩=some (.int .i32 x.2.2):=(hkb.cell _).trans c2;rw [C8 hx,Jg]at bf;have fh:=Lib.hid bf;obtain⟨lo,hi,ah⟩:=x;dsimp only at *;have HK:=Lib.hid (hkb.alloc (.cells #[.int .i32 lo,.int .i32 hi,.int .i32 ah] 172));have HB:=Lib.hid (hb.alloc hb.size (.cells #[.int .i32 lo,.int .i32 hi,.int .i32 ah] 172));clear bf hkb hb c0 c1 c2 hx;by_cases h1:lo≤r
  ·by_cases h2:r≤hi
   ·have hw:IntKind.i32.wrap (r - ah)=r - ah:=(by rw [IntKind.wrap_i32];omega);have HG:=Lib.hid (fh.out.trans (if_pos ⟨h1,h2⟩));go_wp2_with fail;go_ret;exact⟨sX HG.out.symm,HB.out⟩
   have HG:=Lib.hid (fh.out.trans (if_neg (fun h=>h2 h.2)));go_wp2_with fail;exact⟨⟨k+1,by omega,by go_num,HG.out,HK.out,HB.out⟩,by simp [intOf];omega⟩
  have HG:=Lib.hid (fh.out.trans (if_neg (fun h=>h1 h.1)));go_wp2_with fail;exact⟨⟨k+1,by omega,by go_num,HG.out,HK.out,HB.out⟩,by simp [intOf];omega⟩
 obtain rfl:k=7:=(by omega);have HG:=Lib.hid (bf.trans (show Jg (lP.drop 7) r=r from rfl));clear bf hkb;go_wp2_with fail;go_ret;exact⟨sX HG.out.symm,hb⟩
theorem CY (r:Int) (w:World):Calls Tryz.prog 97 #[.int .i32 r] w fun e w'=>e=.returned (.int .i32 (qx r))∧Below w.heap.size w w':=by
 have HR:=Lib.hid (yq w);have ek:=Lib.hid ((Below.refl w.heap.size w).alloc (Nat.le_refl _) (.cells gh 172));have iO:=Lib.hid (ak.new w 172 gh);go_enter Tryz.func97,Tryz.ntmps97;go_wp2_with fail;refine HR.out.mono ?_;rintro e w1 ⟨rfl,rfl⟩;generalize w.alloc (.cells gh 172)=W0 at *;go_wp2_with fail;go_loopw [7] (SI w r) (fun i _=>7 - (intOf i).toNat);(case atStart=>exact⟨0,Nat.zero_le _,rfl,rfl,iO.out,ek.out⟩);obtain⟨k,hk,rfl,bf,hkb,hb⟩:=hrel;by_cases hlt:k<7
 ·have Fp:decide ((k:Int)<7)=true:=decide_eq_true (by omega);obtain⟨x,hx⟩:∃ z,lP[k]? = some z:=⟨_,List.getElem?_eq_getElem hlt⟩;obtain⟨c0,c1,c2,b1,b2,b3,b4,b5,b6⟩:=Ek hx;have d0:wr.cell? ⟨w.heap.size,k*3,none⟩=some (.int .i32 x.1):=(hkb.cell _).trans c0;have d1:wr.cell? ⟨w.heap.size,k*3+1,none⟩=some (.int .i32 x.2.1):=(hkb.cell _).trans c1;have d2:wr.cell? ⟨w.heap.size,k*3+2,none⟩=some (.int .i32 x.2.2):=(hkb.cell _).trans c2;rw [C8 hx,AW]at bf;have fh:=Lib.hid bf;obtain⟨lo,hi,ah⟩:=x;dsimp only at *;have HK:=Lib.hid (hkb.alloc (.cells #[.int .i32 lo,.int .i32 hi,.int .i32 ah] 172));have HB:=Lib.hid (hb.alloc hb.size (.cells #[.int .i32 lo,.int .i32 hi,.int .i32 ah] 172));have hw1:IntKind.i32.wrap (lo - ah)=lo - ah:=(by rw [IntKind.wrap_i32];omega);have Dj:IntKind.i32.wrap (hi - ah)=hi - ah:=(by rw [IntKind.wrap_i32];omega);clear bf hkb hb c0 c1 c2 hx;by_cases h1:lo - ah≤r
  ·by_cases h2:r≤hi - ah
   ·have hw:IntKind.i32.wrap (r+ah)=r+ah:=(by rw [IntKind.wrap_i32];omega);have HG:=Lib.hid (fh.out.trans (if_pos ⟨h1,h2⟩));go_wp2_with fail;go_ret;exact⟨sX HG.out.symm,HB.out⟩
   have HG:=Lib.hid (fh.out.trans (if_neg (fun h=>h2 h.2)));go_wp2_with fail;exact⟨⟨k+1,by omega,by go_num,HG.out,HK.out,HB.out⟩,by simp [intOf];omega⟩
  have HG:=Lib.hid (fh.out.trans (if_neg (fun h=>h1 h.1)));go_wp2_with fail;exact⟨⟨k+1,by omega,by go_num,HG.out,HK.out,HB.out⟩,by simp [intOf];omega⟩
 obtain rfl:k=7:=(by omega);have HG:=Lib.hid (bf.trans (show AW (lP.drop 7) r=r from rfl));clear bf hkb;go_wp2_with fail;go_ret;exact⟨sX HG.out.symm,hb⟩
theorem abA (r:Int):KM r=if (97≤r∧r≤122)∨((224≤r∧r≤254)∧r≠247)∨((945≤r∧r≤969)∧r≠962)∨(1072≤r∧r≤1103)then r - 32 else if 1104≤r∧r≤1119 then r - 80 else r:=by
 simp only [KM,lP,Jg];(repeat' split);(all_goals omega)
theorem P4 (r:Int):qx r=if (65≤r∧r≤90)∨((192≤r∧r≤222)∧r≠215)∨((913≤r∧r≤937)∧r≠930)∨(1040≤r∧r≤1071)then r+32 else if 1024≤r∧r≤1039 then r+80 else r:=by
 simp only [qx,lP,AW];(repeat' split);(all_goals omega)
theorem K4 (r:Int) (w:World):Calls Tryz.prog 22 #[.int .i32 r] w fun e w'=>e=.returned (.int .i32 (qx r))∧w'=w:=by
 have HP:=Lib.hid (P4 r);go_enter Tryz.func22,Tryz.ntmps22;go_wp2_with fail;(all_goals go_ret);(all_goals refine⟨sX ?_,rfl⟩);(all_goals rw [HP.out]);(all_goals repeat' split);(all_goals simp_all);(all_goals omega)
end Go.Proofs.YtapechjebkjidaaGreatDoor
