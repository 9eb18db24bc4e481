import Derived.Test.YtamkjeipdjbemaaGreatDoorZpH
import Derived.Test.YtamkjeipdjbemaaGreatDoorZp3
import Derived.Test.YtamkjeipdjbemaaGreatDoorRows
import Derived.Deep.QuietTactic
set_option maxHeartbeats 1600000
set_option maxRecDepth 100000
namespace Go.Proofs.YtamkjeipdjbemaaGreatDoor
open Go.RowKit
def lS:List (Int × Int × Int):=[(97,122,32),(224,246,32),(248,254,32),(945,961,32),(963,969,32),(1072,1103,32),(1104,1119,80)]
def Jq:List (Int × Int × Int)→Int→Int
  | [],r=>r
  | x::l,r=>if x.1≤r∧r≤x.2.1 then r - x.2.2 else Jq l r
def zz:List (Int × Int × Int)→Int→Int
  | [],r=>r
  | x::l,r=>if x.1 - x.2.2≤r∧r≤x.2.1 - x.2.2 then r+x.2.2 else zz l r
def tW (r:Int):Int:=Jq lS r
def jX (r:Int):Int:=zz lS r
def gx:Array Value:=#[.int .i32 97,.int .i32 122,.int .i32 32,.int .i32 224,.int .i32 246,.int .i32 32,.int .i32 248,.int .i32 254,.int .i32 32,.int .i32 945,.int .i32 961,.int .i32 32,.int .i32 963,.int .i32 969,.int .i32 32,.int .i32 1072,.int .i32 1103,.int .i32 32,.int .i32 1104,.int .i32 1119,.int .i32 80]
theorem Dx {k:Nat} {x:Int × Int × Int} (h:lS[k]? = some x):gx[k*3]? = some (.int .i32 x.1)∧gx[k*3+1]? = some (.int .i32 x.2.1)∧gx[k*3+2]? = some (.int .i32 x.2.2)∧0≤x.1 - x.2.2∧x.1≤1119∧x.2.1≤1119∧0≤x.2.2∧x.2.2≤80∧0≤x.2.1 - x.2.2:=by
 match k,h with
 | 0,h=>cases h;exact⟨rfl,rfl,rfl,by decide,by decide,by decide,by decide,by decide,by decide⟩
 | 1,h=>cases h;exact⟨rfl,rfl,rfl,by decide,by decide,by decide,by decide,by decide,by decide⟩
 | 2,h=>cases h;exact⟨rfl,rfl,rfl,by decide,by decide,by decide,by decide,by decide,by decide⟩
 | 3,h=>cases h;exact⟨rfl,rfl,rfl,by decide,by decide,by decide,by decide,by decide,by decide⟩
 | 4,h=>cases h;exact⟨rfl,rfl,rfl,by decide,by decide,by decide,by decide,by decide,by decide⟩
 | 5,h=>cases h;exact⟨rfl,rfl,rfl,by decide,by decide,by decide,by decide,by decide,by decide⟩
 | 6,h=>cases h;exact⟨rfl,rfl,rfl,by decide,by decide,by decide,by decide,by decide,by decide⟩
theorem Dt {k:Nat} {x:Int × Int × Int} (h:lS[k]? = some x):lS.drop k=x::lS.drop (k+1):=by
 obtain⟨hj,rfl⟩:=List.getElem?_eq_some_iff.1 h;exact List.drop_eq_getElem_cons hj
theorem vK (w:World) :
    Calls Tryz.prog 108 #[] w fun e w'=>e=.returned (.slice (some ⟨w.heap.size,0,none⟩) 7 7)∧w'=w.alloc (.cells gx 172):=by
 go_enter Tryz.func108,Tryz.ntmps108;go_wp2_with fail;go_ret;exact⟨rfl,rfl⟩
def Xx (w:World) (r:Int) (i:Value) (wr:World):Prop:=∃ k:Nat,k≤7∧i=.int .i64 k∧tW r=Jq (lS.drop k) r∧an wr w.heap.size 172 gx∧Below w.heap.size w wr
def S8 (w:World) (r:Int) (i:Value) (wr:World):Prop:=∃ k:Nat,k≤7∧i=.int .i64 k∧jX r=zz (lS.drop k) r∧an wr w.heap.size 172 gx∧Below w.heap.size w wr
theorem Ew (r:Int) (w:World):Calls Tryz.prog 81 #[.int .i32 r] w fun e w'=>e=.returned (.int .i32 (tW r))∧Below w.heap.size w w':=by
 have HR:=qqh (vK w);have cy:=qqh ((Below.refl w.heap.size w).alloc qql (.cells gx 172));have gS:=qqh (an.new w 172 gx);go_enter Tryz.func81,Tryz.ntmps81;go_wp2_with fail;refine HR.out.mono ?_;rintro e w1 ⟨rfl,rfl⟩;generalize w.alloc (.cells gx 172)=W0 at *;go_wp2_with fail;go_loopw [7] (Xx w r) (fun i _=>7 - (intOf i).toNat);(case atStart=>exact⟨0,Nat.zero_le _,rfl,rfl,gS.out,cy.out⟩);obtain⟨k,hk,rfl,aN,hkb,hb⟩:=hrel;by_cases hlt:k<7
 ·have EV:decide ((k:Int)<7)=true:=decide_eq_true (by omega);obtain⟨x,hx⟩:∃ z,lS[k]? = some z:=⟨_,List.getElem?_eq_getElem hlt⟩;obtain⟨c0,c1,c2,b1,b2,b3,b4,b5,b6⟩:=Dx hx;have d0:wr.cell? ⟨w.heap.size,k*3,none⟩=some (.int .i32 x.1):=(hkb.cell _).trans c0;have d1:wr.cell? ⟨w.heap.size,k*3+1,none⟩=some (.int .i32 x.2.1):=(hkb.cell _).trans c1;have d2:wr.cell? ⟨w.heap.size,k*3+2,none⟩=some (.int .i32 x.2.2):=(hkb.cell _).trans c2;rw [Dt hx,Jq]at aN;have dh:=qqh aN;obtain⟨lo,hi,ah⟩:=x;dsimp only at *;have HK:=qqh (hkb.alloc (.cells #[.int .i32 lo,.int .i32 hi,.int .i32 ah] 172));have HB:=qqh (hb.alloc hb.size (.cells #[.int .i32 lo,.int .i32 hi,.int .i32 ah] 172));clear aN hkb hb c0 c1 c2 hx;by_cases h1:lo≤r
  ·by_cases h2:r≤hi
   ·have hw:IntKind.i32.wrap (r - ah)=r - ah:=(by rw [IntKind.wrap_i32];omega);have HG:=qqh (dh.out.trans (if_pos ⟨h1,h2⟩));go_wp2_with fail;go_ret;exact⟨lV HG.out.symm,HB.out⟩
   have HG:=qqh (dh.out.trans (if_neg (fun h=>h2 h.2)));go_wp2_with fail;exact⟨⟨k+1,by omega,by go_num,HG.out,HK.out,HB.out⟩,by simp [intOf];omega⟩
  have HG:=qqh (dh.out.trans (if_neg (fun h=>h1 h.1)));go_wp2_with fail;exact⟨⟨k+1,by omega,by go_num,HG.out,HK.out,HB.out⟩,by simp [intOf];omega⟩
 obtain rfl:k=7:=(by omega);have HG:=qqh (aN.trans (show Jq (lS.drop 7) r=r from rfl));clear aN hkb;go_wp2_with fail;go_ret;exact⟨lV HG.out.symm,hb⟩
theorem En (r:Int) (w:World):Calls Tryz.prog 82 #[.int .i32 r] w fun e w'=>e=.returned (.int .i32 (jX r))∧Below w.heap.size w w':=by
 have HR:=qqh (vK w);have cy:=qqh ((Below.refl w.heap.size w).alloc qql (.cells gx 172));have gS:=qqh (an.new w 172 gx);go_enter Tryz.func82,Tryz.ntmps82;go_wp2_with fail;refine HR.out.mono ?_;rintro e w1 ⟨rfl,rfl⟩;generalize w.alloc (.cells gx 172)=W0 at *;go_wp2_with fail;go_loopw [7] (S8 w r) (fun i _=>7 - (intOf i).toNat);(case atStart=>exact⟨0,Nat.zero_le _,rfl,rfl,gS.out,cy.out⟩);obtain⟨k,hk,rfl,aN,hkb,hb⟩:=hrel;by_cases hlt:k<7
 ·have EV:decide ((k:Int)<7)=true:=decide_eq_true (by omega);obtain⟨x,hx⟩:∃ z,lS[k]? = some z:=⟨_,List.getElem?_eq_getElem hlt⟩;obtain⟨c0,c1,c2,b1,b2,b3,b4,b5,b6⟩:=Dx hx;have d0:wr.cell? ⟨w.heap.size,k*3,none⟩=some (.int .i32 x.1):=(hkb.cell _).trans c0;have d1:wr.cell? ⟨w.heap.size,k*3+1,none⟩=some (.int .i32 x.2.1):=(hkb.cell _).trans c1;have d2:wr.cell? ⟨w.heap.size,k*3+2,none⟩=some (.int .i32 x.2.2):=(hkb.cell _).trans c2;rw [Dt hx,zz]at aN;have dh:=qqh aN;obtain⟨lo,hi,ah⟩:=x;dsimp only at *;have HK:=qqh (hkb.alloc (.cells #[.int .i32 lo,.int .i32 hi,.int .i32 ah] 172));have HB:=qqh (hb.alloc hb.size (.cells #[.int .i32 lo,.int .i32 hi,.int .i32 ah] 172));have hw1:IntKind.i32.wrap (lo - ah)=lo - ah:=(by rw [IntKind.wrap_i32];omega);have ya:IntKind.i32.wrap (hi - ah)=hi - ah:=(by rw [IntKind.wrap_i32];omega);clear aN hkb hb c0 c1 c2 hx;by_cases h1:lo - ah≤r
  ·by_cases h2:r≤hi - ah
   ·have hw:IntKind.i32.wrap (r+ah)=r+ah:=(by rw [IntKind.wrap_i32];omega);have HG:=qqh (dh.out.trans (if_pos ⟨h1,h2⟩));go_wp2_with fail;go_ret;exact⟨lV HG.out.symm,HB.out⟩
   have HG:=qqh (dh.out.trans (if_neg (fun h=>h2 h.2)));go_wp2_with fail;exact⟨⟨k+1,by omega,by go_num,HG.out,HK.out,HB.out⟩,by simp [intOf];omega⟩
  have HG:=qqh (dh.out.trans (if_neg (fun h=>h1 h.1)));go_wp2_with fail;exact⟨⟨k+1,by omega,by go_num,HG.out,HK.out,HB.out⟩,by simp [intOf];omega⟩
 obtain rfl:k=7:=(by omega);have HG:=qqh (aN.trans (show zz (lS.drop 7) r=r from rfl));clear aN hkb;go_wp2_with fail;go_ret;exact⟨lV HG.out.symm,hb⟩
theorem Tc (r:Int):tW r=if (97≤r∧r≤122)∨((224≤r∧r≤254)∧r≠247)∨((945≤r∧r≤969)∧r≠962)∨(1072≤r∧r≤1103)then r - 32 else if 1104≤r∧r≤1119 then r - 80 else r:=by
 simp only [tW,lS,Jq];(repeat' split);(all_goals omega)
theorem O5 (r:Int):jX r=if (65≤r∧r≤90)∨((192≤r∧r≤222)∧r≠215)∨((913≤r∧r≤937)∧r≠930)∨(1040≤r∧r≤1071)then r+32 else if 1024≤r∧r≤1039 then r+80 else r:=by
 simp only [jX,lS,zz];(repeat' split);(all_goals omega)
theorem KA (r:Int) (w:World):Calls Tryz.prog 56 #[.int .i32 r] w fun e w'=>e=.returned (.int .i32 (tW r))∧w'=w:=by
 have HP:=qqh (Tc r);have hw1:97≤r→r≤2000→IntKind.i32.wrap (r - 32)=r - 32:=fun h1 h2=>(by rw [IntKind.wrap_i32];omega);go_enter Tryz.func56,Tryz.ntmps56;go_wp2_with fail;(all_goals go_ret);(all_goals refine⟨lV ?_,rfl⟩);(all_goals rw [HP.out]);(all_goals repeat' split);(all_goals simp_all);(all_goals omega)
theorem IQ (r:Int) (w:World):Calls Tryz.prog 57 #[.int .i32 r] w fun e w'=>e=.returned (.int .i32 (jX r))∧w'=w:=by
 have HP:=qqh (O5 r);go_enter Tryz.func57,Tryz.ntmps57;go_wp2_with fail;(all_goals go_ret);(all_goals refine⟨lV ?_,rfl⟩);(all_goals rw [HP.out]);(all_goals repeat' split);(all_goals simp_all);(all_goals omega)
end Go.Proofs.YtamkjeipdjbemaaGreatDoor
