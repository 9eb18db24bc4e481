/- Case + NormP + NormS + NormMap -/
import Derived.Test.YtblinekbpcdbfaaGreatDoorZv4
import Derived.Test.YtblinekbpcdbfaaGreatDoorRows
import Derived.Deep.QuietTactic
import Derived.Test.YtblinekbpcdbfaaGreatDoorZv3
import Derived.Test.YtblinekbpcdbfaaGreatDoorZv0
import Derived.Test.YtblinekbpcdbfaaGreatDoorZv7
import Derived.WideKeyPair
set_option maxHeartbeats 1600000
set_option maxRecDepth 100000
namespace Go.Proofs.YtblinekbpcdbfaaGreatDoor
open Go.RowKit
def kW:List (Int × Int × Int):=[(97,122,32),(224,246,32),(248,254,32),(945,961,32),(963,969,32),(1072,1103,32),(1104,1119,80)]
def E4:List (Int × Int × Int)→Int→Int
  | [],r=>r
  | x::l,r=>if x.1≤r∧r≤x.2.1 then r - x.2.2 else E4 l r
def xB:List (Int × Int × Int)→Int→Int
  | [],r=>r
  | x::l,r=>if x.1 - x.2.2≤r∧r≤x.2.1 - x.2.2 then r+x.2.2 else xB l r
def xT (r:Int):Int:=E4 kW r
def iM (r:Int):Int:=xB kW r
def fO:Array Value:=#[.int .i32 97,.int .i32 122,.int .i32 32,.int .i32 224,.int .i32 246,.int .i32 32,.int .i32 248,.int .i32 254,.int .i32 32,.int .i32 945,.int .i32 961,.int .i32 32,.int .i32 963,.int .i32 969,.int .i32 32,.int .i32 1072,.int .i32 1103,.int .i32 32,.int .i32 1104,.int .i32 1119,.int .i32 80]
theorem Dc {k:Nat} {x:Int × Int × Int} (h:kW[k]? = some x):fO[k*3]? = some (.int .i32 x.1)∧fO[k*3+1]? = some (.int .i32 x.2.1)∧fO[k*3+2]? = some (.int .i32 x.2.2)∧0≤x.1 - x.2.2∧x.1≤1119∧x.2.1≤1119∧0≤x.2.2∧x.2.2≤80∧0≤x.2.1 - x.2.2:=by
 match k,h with
 | 0,h=>cases h;exact⟨rfl,rfl,rfl,by decide,by decide,by decide,by decide,by decide,by decide⟩
 | 1,h=>cases h;exact⟨rfl,rfl,rfl,by decide,by decide,by decide,by decide,by decide,by decide⟩
 | 2,h=>cases h;exact⟨rfl,rfl,rfl,by decide,by decide,by decide,by decide,by decide,by decide⟩
 | 3,h=>cases h;exact⟨rfl,rfl,rfl,by decide,by decide,by decide,by decide,by decide,by decide⟩
 | 4,h=>cases h;exact⟨rfl,rfl,rfl,by decide,by decide,by decide,by decide,by decide,by decide⟩
 | 5,h=>cases h;exact⟨rfl,rfl,rfl,by decide,by decide,by decide,by decide,by decide,by decide⟩
 | 6,h=>cases h;exact⟨rfl,rfl,rfl,by decide,by decide,by decide,by decide,by decide,by decide⟩
theorem CW {k:Nat} {x:Int × Int × Int} (h:kW[k]? = some x):kW.drop k=x::kW.drop (k+1):=by
 obtain⟨hj,rfl⟩:=List.getElem?_eq_some_iff.1 h;exact List.drop_eq_getElem_cons hj
theorem xG (w:World) :
    Calls Tryz.prog 40 #[] w fun e w'=>e=.returned (.slice (some ⟨w.heap.size,0,none⟩) 7 7)∧w'=w.alloc (.cells fO 99):=by
 go_enter Tryz.func40,Tryz.ntmps40;go_wp2_with fail;go_ret;exact⟨rfl,rfl⟩
def V9 (w:World) (r:Int) (i:Value) (wr:World):Prop:=∃ k:Nat,k≤7∧i=.int .i64 k∧xT r=E4 (kW.drop k) r∧aj wr w.heap.size 99 fO∧Below w.heap.size w wr
def Tl (w:World) (r:Int) (i:Value) (wr:World):Prop:=∃ k:Nat,k≤7∧i=.int .i64 k∧iM r=xB (kW.drop k) r∧aj wr w.heap.size 99 fO∧Below w.heap.size w wr
theorem tT (r:Int) (w:World):Calls Tryz.prog 17 #[.int .i32 r] w fun e w'=>e=.returned (.int .i32 (xT r))∧Below w.heap.size w w':=by
 have HR:=qqh (xG w);have ep:=qqh ((Below.refl w.heap.size w).alloc qql (.cells fO 99));have gU:=qqh (aj.new w 99 fO);go_enter Tryz.func17,Tryz.ntmps17;go_wp2_with fail;refine HR.out.mono ?_;rintro e w1 ⟨rfl,rfl⟩;generalize w.alloc (.cells fO 99)=W0 at *;go_wp2_with fail;go_loopw [7] (V9 w r) (fun i _=>7 - (intOf i).toNat);(case atStart=>exact⟨0,Nat.zero_le _,rfl,rfl,gU.out,ep.out⟩);obtain⟨k,hk,rfl,aZ,hkb,hb⟩:=hrel;by_cases hlt:k<7
 ·have Eh:decide ((k:Int)<7)=true:=decide_eq_true (by omega);obtain⟨x,hx⟩:∃ z,kW[k]? = some z:=⟨_,List.getElem?_eq_getElem hlt⟩;obtain⟨c0,c1,c2,b1,b2,b3,b4,b5,b6⟩:=Dc hx;have d0:wr.cell? ⟨w.heap.size,k*3,none⟩=some (.int .i32 x.1):=(hkb.cell _).trans c0;have d1:wr.cell? ⟨w.heap.size,k*3+1,none⟩=some (.int .i32 x.2.1):=(hkb.cell _).trans c1;have d2:wr.cell? ⟨w.heap.size,k*3+2,none⟩=some (.int .i32 x.2.2):=(hkb.cell _).trans c2;rw [CW hx,E4]at aZ;have eU:=qqh aZ;obtain⟨lo,hi,ah⟩:=x;dsimp only at *;have HK:=qqh (hkb.alloc (.cells #[.int .i32 lo,.int .i32 hi,.int .i32 ah] 99));have HB:=qqh (hb.alloc hb.size (.cells #[.int .i32 lo,.int .i32 hi,.int .i32 ah] 99));clear aZ hkb hb c0 c1 c2 hx;by_cases h1:lo≤r
  ·by_cases h2:r≤hi
   ·have hw:IntKind.i32.wrap (r - ah)=r - ah:=(by rw [IntKind.wrap_i32];omega);have HG:=qqh (eU.out.trans (if_pos ⟨h1,h2⟩));go_wp2_with fail;go_ret;exact⟨uT HG.out.symm,HB.out⟩
   have HG:=qqh (eU.out.trans (if_neg (fun h=>h2 h.2)));go_wp2_with fail;exact⟨⟨k+1,by omega,by go_num,HG.out,HK.out,HB.out⟩,by simp [intOf];omega⟩
  have HG:=qqh (eU.out.trans (if_neg (fun h=>h1 h.1)));go_wp2_with fail;exact⟨⟨k+1,by omega,by go_num,HG.out,HK.out,HB.out⟩,by simp [intOf];omega⟩
 obtain rfl:k=7:=(by omega);have HG:=qqh (aZ.trans (show E4 (kW.drop 7) r=r from rfl));clear aZ hkb;go_wp2_with fail;go_ret;exact⟨uT HG.out.symm,hb⟩
theorem nG (r:Int) (w:World):Calls Tryz.prog 18 #[.int .i32 r] w fun e w'=>e=.returned (.int .i32 (iM r))∧Below w.heap.size w w':=by
 have HR:=qqh (xG w);have ep:=qqh ((Below.refl w.heap.size w).alloc qql (.cells fO 99));have gU:=qqh (aj.new w 99 fO);go_enter Tryz.func18,Tryz.ntmps18;go_wp2_with fail;refine HR.out.mono ?_;rintro e w1 ⟨rfl,rfl⟩;generalize w.alloc (.cells fO 99)=W0 at *;go_wp2_with fail;go_loopw [7] (Tl w r) (fun i _=>7 - (intOf i).toNat);(case atStart=>exact⟨0,Nat.zero_le _,rfl,rfl,gU.out,ep.out⟩);obtain⟨k,hk,rfl,aZ,hkb,hb⟩:=hrel;by_cases hlt:k<7
 ·have Eh:decide ((k:Int)<7)=true:=decide_eq_true (by omega);obtain⟨x,hx⟩:∃ z,kW[k]? = some z:=⟨_,List.getElem?_eq_getElem hlt⟩;obtain⟨c0,c1,c2,b1,b2,b3,b4,b5,b6⟩:=Dc hx;have d0:wr.cell? ⟨w.heap.size,k*3,none⟩=some (.int .i32 x.1):=(hkb.cell _).trans c0;have d1:wr.cell? ⟨w.heap.size,k*3+1,none⟩=some (.int .i32 x.2.1):=(hkb.cell _).trans c1;have d2:wr.cell? ⟨w.heap.size,k*3+2,none⟩=some (.int .i32 x.2.2):=(hkb.cell _).trans c2;rw [CW hx,xB]at aZ;have eU:=qqh aZ;obtain⟨lo,hi,ah⟩:=x;dsimp only at *;have HK:=qqh (hkb.alloc (.cells #[.int .i32 lo,.int .i32 hi,.int .i32 ah] 99));have HB:=qqh (hb.alloc hb.size (.cells #[.int .i32 lo,.int .i32 hi,.int .i32 ah] 99));have hw1:IntKind.i32.wrap (lo - ah)=lo - ah:=(by rw [IntKind.wrap_i32];omega);have CS:IntKind.i32.wrap (hi - ah)=hi - ah:=(by rw [IntKind.wrap_i32];omega);clear aZ hkb hb c0 c1 c2 hx;by_cases h1:lo - ah≤r
  ·by_cases h2:r≤hi - ah
   ·have hw:IntKind.i32.wrap (r+ah)=r+ah:=(by rw [IntKind.wrap_i32];omega);have HG:=qqh (eU.out.trans (if_pos ⟨h1,h2⟩));go_wp2_with fail;go_ret;exact⟨uT HG.out.symm,HB.out⟩
   have HG:=qqh (eU.out.trans (if_neg (fun h=>h2 h.2)));go_wp2_with fail;exact⟨⟨k+1,by omega,by go_num,HG.out,HK.out,HB.out⟩,by simp [intOf];omega⟩
  have HG:=qqh (eU.out.trans (if_neg (fun h=>h1 h.1)));go_wp2_with fail;exact⟨⟨k+1,by omega,by go_num,HG.out,HK.out,HB.out⟩,by simp [intOf];omega⟩
 obtain rfl:k=7:=(by omega);have HG:=qqh (aZ.trans (show xB (kW.drop 7) r=r from rfl));clear aZ hkb;go_wp2_with fail;go_ret;exact⟨uT HG.out.symm,hb⟩
def qJ:List (Int × ByteArray × ByteArray):=[(768,⟨#[65,69,73,79,85,97,101,105,111,117]⟩,⟨#[195,128,195,136,195,140,195,146,195,153,195,160,195,168,195,172,195,178,195,185]⟩),(769,⟨#[65,69,73,79,85,89,97,101,105,111,117,121]⟩,⟨#[195,129,195,137,195,141,195,147,195,154,195,157,195,161,195,169,195,173,195,179,195,186,195,189]⟩),(770,⟨#[65,69,73,79,85,97,101,105,111,117]⟩,⟨#[195,130,195,138,195,142,195,148,195,155,195,162,195,170,195,174,195,180,195,187]⟩),(771,⟨#[65,78,79,97,110,111]⟩,⟨#[195,131,195,145,195,149,195,163,195,177,195,181]⟩),(776,⟨#[65,69,73,79,85,97,101,105,111,117,121]⟩,⟨#[195,132,195,139,195,143,195,150,195,156,195,164,195,171,195,175,195,182,195,188,195,191]⟩),(778,⟨#[65,97]⟩,⟨#[195,133,195,165]⟩),(780,⟨#[67,83,90,99,115,122]⟩,⟨#[196,140,197,160,197,189,196,141,197,161,197,190]⟩),(807,⟨#[67,83,99,115]⟩,⟨#[195,135,197,158,195,167,197,159]⟩),(808,⟨#[65,69,97,101]⟩,⟨#[196,132,196,152,196,133,196,153]⟩),(803,⟨#[65,69,79,97,101,111]⟩,⟨#[225,186,160,225,186,184,225,187,140,225,186,161,225,186,185,225,187,141]⟩),(770,⟨#[225,186,161,225,186,185,225,187,141]⟩,⟨#[225,186,173,225,187,135,225,187,153]⟩)]
def jN:List (Int × Int × Int):=[(65,768,192),(69,768,200),(73,768,204),(79,768,210),(85,768,217),(97,768,224),(101,768,232),(105,768,236),(111,768,242),(117,768,249),(65,769,193),(69,769,201),(73,769,205),(79,769,211),(85,769,218),(89,769,221),(97,769,225),(101,769,233),(105,769,237),(111,769,243),(117,769,250),(121,769,253),(65,770,194),(69,770,202),(73,770,206),(79,770,212),(85,770,219),(97,770,226),(101,770,234),(105,770,238),(111,770,244),(117,770,251),(65,771,195),(78,771,209),(79,771,213),(97,771,227),(110,771,241),(111,771,245),(65,776,196),(69,776,203),(73,776,207),(79,776,214),(85,776,220),(97,776,228),(101,776,235),(105,776,239),(111,776,246),(117,776,252),(121,776,255),(65,778,197),(97,778,229),(67,780,268),(83,780,352),(90,780,381),(99,780,269),(115,780,353),(122,780,382),(67,807,199),(83,807,350),(99,807,231),(115,807,351),(65,808,260),(69,808,280),(97,808,261),(101,808,281),(65,803,7840),(69,803,7864),(79,803,7884),(97,803,7841),(101,803,7865),(111,803,7885),(7841,770,7853),(7865,770,7879),(7885,770,7897)]
def nA:List (Int × Int × Int)→Int→Option (Int × Int)
  | [],_=>none
  | (b,m,w)::l,r=>if w=r then some (b,m)else nA l r
def iw:List (Int × Int × Int):=jN.reverse
def ew:Nat→Int→List Int
  | 0,r=>[r]
  | f+1,r=>match nA iw r with
    | none=>[r]
    | some (b,m)=>ew f b++[m]
def tW:Nat→Int→Bool
  | 0,r=>(nA iw r).isNone
  | f+1,r=>match nA iw r with
    | none=>true
    | some (b,_)=>tW f b
theorem zH:∀ {l:List (Int × Int × Int)} {r b m:Int},nA l r=some (b,m)→(b,m,r)∈l:=by
 intro l;induction l with
 | nil=>intro r b m h;cases h
 | cons x l ih=>
  obtain⟨b',m',w⟩:=x;intro r b m h;rw [nA]at h;split at h
  ·rename_i e;injection h with h;injection h with h1 h2;subst e h1 h2;simp
  exact List.mem_cons_of_mem _ (ih h)
theorem FK:iw.all (fun x=>tW 1 x.1)=true:=by decide +kernel
theorem Le (r:Int):tW 2 r=true:=by
 unfold tW;split;rfl;rename_i b m h;exact List.all_eq_true.1 FK _ (zH h)
def dR (r:Int):Int:=if r=807∨r=808 then 202 else if r=803 then 220 else if r=768∨r=769∨r=770∨r=771∨r=776∨r=778∨r=780 then 230 else 0
def nk (x y:Int):Bool:=x == y || (dR x == 0 && dR y == 0 && iM x == iM y)
def fm:List Int→List Int→Bool
  | [],[]=>true
  | x::l,y::k=>nk x y && fm l k
  | _,_=>false
theorem vR:∀ (l:List Int),fm l l=true:=by
 intro l;induction l with
 | nil=>rfl
 | cons x l ih=>simp [fm,nk,ih]
def Bx (r:Int):Bool:=fm (ew 2 (xT r)) (ew 2 r) && fm (ew 2 (iM r)) (ew 2 r)
theorem Fc:(List.range 1120).all (fun k=>Bx (k:Int))=true:=by decide +kernel
theorem BV:∀ (l:List (Int × Int × Int)) (r:Int),(∀ x∈l,¬(x.1≤r∧r≤x.2.1))→E4 l r=r:=by
 intro l;induction l with
 | nil=>intro r _;rfl
 | cons x l ih=>
  intro r h;rw [E4,if_neg (h x (by simp))];exact ih r fun y hy=>h y (by simp [hy])
theorem zf:∀ (l:List (Int × Int × Int)) (r:Int),(∀ x∈l,¬(x.1 - x.2.2≤r∧r≤x.2.1 - x.2.2))→xB l r=r:=by
 intro l;induction l with
 | nil=>intro r _;rfl
 | cons x l ih=>
  intro r h;rw [xB,if_neg (h x (by simp))];exact ih r fun y hy=>h y (by simp [hy])
theorem GA:kW.all (fun x=>decide (0≤x.1) && decide (x.2.1≤1119) && decide (0≤x.2.2) && decide (0≤x.1 - x.2.2))=true:=by decide
theorem Qm (r:Int):Bx r=true:=by
 by_cases h:0≤r∧r≤1119
 ·have h1:=List.all_eq_true.1 Fc r.toNat (List.mem_range.2 (by omega));rwa [show((r.toNat:Nat):Int)=r by omega]at h1
 have hb:∀ x∈kW,0≤x.1∧x.2.1≤1119∧0≤x.2.2∧0≤x.1 - x.2.2:=by
  intro x hx;have:=List.all_eq_true.1 GA x hx;simp only [Bool.and_eq_true,decide_eq_true_eq]at this;omega
 have h1:xT r=r:=BV _ _ fun x hx=>(by have:=hb x hx;omega);have h2:iM r=r:=zf _ _ fun x hx=>(by have:=hb x hx;omega);unfold Bx;rw [h1,h2,vR];rfl
theorem sQ:∀ {l k:List Int},fm l k=true→l.length=k.length:=by
 intro l;induction l with
 | nil=>intro k h;cases k with
   | nil=>rfl
   | cons _ _=>cases h
 | cons x l ih=>intro k h;cases k with
   | nil=>cases h
   | cons y k=>simp [fm]at h;simp [ih h.2]
theorem JY:∀ {l k l' k':List Int},fm l k=true→fm l' k'=true→fm (l++l') (k++k')=true:=by
 intro l;induction l with
 | nil=>intro k l' k' h h';cases k with
   | nil=>exact h'
   | cons _ _=>cases h
 | cons x l ih=>intro k l' k' h h';cases k with
   | nil=>cases h
   | cons y k=>simp [fm]at h ⊢;exact⟨h.1,ih h.2 h'⟩
def rG (x:Int × ByteArray × ByteArray):List (Int × Int × Int):=((aR x.2.1 0).zip (aR x.2.2 0)).map fun p=>(p.1,x.1,p.2)
theorem Nj:qJ.flatMap rG=jN:=by kernel_rfl
end Go.Proofs.YtblinekbpcdbfaaGreatDoor
namespace Go.Proofs.YtblinekbpcdbfaaGreatDoor
open Go.RowKit Go.Sort
def eY (x y:Int):Bool:=decide (dR x<dR y)
def dm (d:Array Int):Nat→Nat→Nat
  | 0,k=>k
  | f+1,k=>if k<d.size∧0<dR d[k]! then dm d f (k+1)else k
def nI (d:Array Int) (i:Nat) (s:Array Int):Array Int:=d.mapIdx fun j x=>if i≤j∧j<i+s.size then s[j - i]! else x
def i4:Nat→Nat→Array Int→Array Int
  | 0,_,d=>d
  | f+1,i,d=>if i<d.size then i4 f (max (dm d (d.size - i) i) (i+1)) (nI d i (iF eY (d.extract i (dm d (d.size - i) i))))else d
theorem Im (d:Array Int):∀ (f k:Nat),k≤dm d f k∧dm d f k≤max k d.size∧∀ j,k≤j→j<dm d f k→0<dR d[j]!:=by
 intro f;induction f with
 | zero=>intro k;exact⟨qql,Nat.le_max_left ..,fun j h1 h2=>absurd h2 (by rw [dm];omega)⟩
 | succ f ih=>
  intro k;rw [dm];split
  ·rename_i h;obtain⟨h1,h2,h3⟩:=ih (k+1);refine⟨by omega,by omega,fun j h4 h5=>?_⟩;by_cases hj:j=k
   ·subst hj;exact h.2
   exact h3 j (by omega) h5
  exact⟨qql,Nat.le_max_left ..,fun j h1 h2=>absurd h2 (by omega)⟩
theorem gj (d:Array Int) (i:Nat) (s:Array Int):(nI d i s).size=d.size:=by simp [nI]
theorem sE (d:Array Int) (i:Nat) (s:Array Int) {j:Nat} (hj:j<d.size):(nI d i s)[j]! = if i≤j∧j<i+s.size then s[j - i]! else d[j]!:=by
 unfold nI;rw [getElem!_pos _ _ (by simpa using hj),Array.getElem_mapIdx,getElem!_pos d j hj]
def wv (d e:Array Int):Prop:=d.size=e.size∧∀ j,j<d.size→nk d[j]! e[j]! = true
theorem nM {x y:Int} (h:nk x y=true):dR x=dR y:=by
 unfold nk at h;simp only [Bool.or_eq_true,Bool.and_eq_true,beq_iff_eq]at h;rcases h with rfl | h;rfl;rw [h.1.1,h.1.2]
theorem vK {x y:Int} (h:nk x y=true) (hc:0<dR x):x=y:=by
 unfold nk at h;simp only [Bool.or_eq_true,Bool.and_eq_true,beq_iff_eq]at h;rcases h with rfl | h;rfl;omega
theorem AJ {d e:Array Int} (h:wv d e):∀ (f k:Nat),dm d f k=dm e f k:=by
 intro f;induction f with
 | zero=>intro k;rfl
 | succ f ih=>
  intro k;rw [dm,dm,← h.1];by_cases hk:k<d.size
  ·rw [nM (h.2 k hk),ih]
  rw [if_neg (fun q=>hk q.1),if_neg (fun q=>hk q.1)]
theorem CZ:∀ (f i:Nat) (d e:Array Int),wv d e→wv (i4 f i d) (i4 f i e):=by
 intro f;induction f with
 | zero=>intro i d e h;exact h
 | succ f ih=>
  intro i d e h;rw [i4,i4,← h.1,← AJ h];split
  ·rename_i hi;have hr:=Im d (d.size - i) i;have he:d.extract i (dm d (d.size - i) i)=e.extract i (dm d (d.size - i) i):=by
    apply Array.ext
    ·simp [h.1]
    intro j h1 h2;simp only [Array.size_extract]at h1;rw [Array.getElem_extract,Array.getElem_extract];have hm:=vK (h.2 (i+j) (by omega)) (hr.2.2 (i+j) (by omega) (by omega));rwa [getElem!_pos d (i+j) (by omega),getElem!_pos e (i+j) (by have:=h.1;omega)]at hm
   rw [← he];refine ih _ _ _ ⟨by rw [gj,gj];exact h.1,fun j hj=>?_⟩;rw [gj]at hj;rw [sE _ _ _ hj,sE _ _ _ (by rw [← h.1];exact hj)];split
   ·simp [nk]
   exact h.2 j hj
  exact h
theorem xd:∀ (f i:Nat) (d:Array Int),(i4 f i d).size=d.size:=by
 intro f;induction f with
 | zero=>intro i d;rfl
 | succ f ih=>
  intro i d;rw [i4];split
  ·rw [ih,gj]
  rfl
theorem IZ:∀ {l k:List Int},fm l k=true→wv l.toArray k.toArray:=by
 intro l k h;refine⟨by simpa using sQ h,?_⟩;induction l generalizing k with
 | nil=>intro j hj;simp at hj
 | cons x l ih=>cases k with
   | nil=>cases h
   | cons y k=>
     simp [fm]at h
     intro j hj
     cases j with
     | zero=>simpa using h.1
     | succ j=>simpa using ih h.2 j (by simpa using hj)
theorem K7:∀ {l k:List Int},wv l.toArray k.toArray→fm l k=true:=by
 intro l;induction l with
 | nil=>intro k h;cases k with
   | nil=>rfl
   | cons _ _=>have:=h.1;simp at this
 | cons x l ih=>intro k h;cases k with
   | nil=>have:=h.1;simp at this
   | cons y k=>
     rw [fm,Bool.and_eq_true]
     refine⟨by simpa using h.2 0 (by simp),ih ⟨by have:=h.1;simpa using this,fun j hj=>?_⟩⟩
     simpa using h.2 (j+1) (by simpa using hj)
def kA (t:List Int):List Int:=(i4 (t.flatMap (ew 2)).length 0 (t.flatMap (ew 2)).toArray).toList
theorem DG {t u:List Int} (h:fm (t.flatMap (ew 2)) (u.flatMap (ew 2))=true):fm (kA t) (kA u)=true:=by
 unfold kA;rw [← sQ h];exact K7 (by simpa using CZ _ 0 _ _ (IZ h))
end Go.Proofs.YtblinekbpcdbfaaGreatDoor
namespace Go.Proofs.YtblinekbpcdbfaaGreatDoor
open Go.RowKit Go.Maps
def Cl (b m r:Int):Value:=.agg #[.int .i32 b,.int .i32 m,.int .i32 r]
def vA:DataW Value:=.held (Cl 0 0 0)
def kZ (w:World) (mb n:Nat) (l:List (Int × Int × Int)):Prop:=∃ D:DataW Value,w.ownsMap Tryz.prog 21 Raw mb n D∧IsMap D∧∀ r:Int,match nA l r with
  | some p=>D.atKey (pU r) vA=.held (Cl p.1 p.2 r)∧has D (pU r)=true
  | none=>D.atKey (pU r) vA=vA∧has D (pU r)=false
theorem kZ.made (w:World):kZ (w.alloc (.map #[] 0)) w.heap.size 0 []:=⟨.map [],World.ownsMap_made _ _ _ _,isMap_empty,fun r=>⟨by simp [DataW.atKey],by simp [has]⟩⟩
theorem kZ.keep {w w':World} {mb n:Nat} {l:List (Int × Int × Int)} (h:kZ w mb n l) (hm:w'.heap[mb]? = w.heap[mb]?):kZ w' mb n l:=by
 obtain⟨D,⟨es,clock,h1,h2⟩,h3⟩:=h;exact⟨D,⟨es,clock,hm.trans h1,h2⟩,h3⟩
theorem kZ.lt {w:World} {mb n:Nat} {l:List (Int × Int × Int)} (h:kZ w mb n l):mb<w.heap.size:=by
 obtain⟨D,h1,_⟩:=h;exact h1.lt
theorem kZ.below {w w':World} {B mb n:Nat} {l:List (Int × Int × Int)} (h:kZ w mb n l) (hb:Below B w w') (hB:mb<B):kZ w' mb n l:=h.keep (hb.block mb hB)
theorem MW (w:World):(zeroValue 105).run Tryz.prog w=.ok (Cl 0 0 0) w:=by kernel_rfl
theorem um {w:World} {ops:Array Oper} {rest:List Oper} {o:Oper} {a:Act} {Q:Exit→Act→World→Prop} (hg:o.guard=none) (m x v:Operand) (hop:o.op=Op.mapUpdate 60 m x v)
    (mb n:Nat) (l:List (Int × Int × Int)) (hm:a.eval m=.map (some mb)) (hM:kZ w mb n l) (hn:n<maxLen) (b c r:Int) (hx:a.eval x=.int .i32 r) (hv:a.eval v=.agg #[.int .i32 b,.int .i32 c,.int .i32 r]) (h0 : -2147483648≤r) (h1:r≤2147483647)
    (hK:∀ w',kZ w' mb (n+1) ((b,c,r)::l)→w.grownBy w' (some mb)→wpList Tryz.prog ops Q rest (a.put o.dst undef) w'):wpList Tryz.prog ops Q (o::rest) a w:=by
 obtain⟨D,hown,hD,hl⟩:=hM;refine wpList_mapUpdate_own w hg m x v _ hop 21 105 B8 Tryz.underlying60 Raw mb n D hm hown hn _ _ (pU r) hx hv (GD h0 h1) (.held (Cl b c r)) [] rfl fun w' h2 h3=>hK w' ⟨_,h2,hD.put _ _,fun q=>?_⟩ h3;unfold nA;by_cases hq:r=q
 ·subst hq;rw [if_pos rfl];exact⟨atKey_put_same hD (G7 _) _ _,has_put_same hD (G7 _) _⟩
 rw [if_neg hq];have hne:pU q≠pU r:=fun e=>hq (Mb e).symm;rw [atKey_put_other hne,has_put_other hne];exact hl q
theorem mj {w:World} {ops:Array Oper} {rest:List Oper} {o:Oper} {a:Act} {Q:Exit→Act→World→Prop} (hg:o.guard=none) (m x:Operand) (hop:o.op=Op.lookup 60 m x true)
    (mb n:Nat) (l:List (Int × Int × Int)) (hm:a.eval m=.map (some mb)) (hM:kZ w mb n l) (r:Int) (hx:a.eval x=.int .i32 r) (h0 : -2147483648≤r) (h1:r≤2147483647) (b c d:Int) (q:Bool) (hs:nA l r=if q then some (b,c)else none) (hd:d=if q then r else 0) (hq:q=false→b=0∧c=0)
    (hK:wpList Tryz.prog ops Q rest (a.put o.dst (.tuple #[.agg #[.int .i32 b,.int .i32 c,.int .i32 d],.bool q])) w):wpList Tryz.prog ops Q (o::rest) a w:=by
 obtain⟨D,hown,hD,hl⟩:=hM;have h2:=hl r;rw [hs]at h2;have h3:D.atKey (pU r) vA=.held (Cl b c d)∧has D (pU r)=q:=by
  cases q with
  | true=>rw [hd];exact h2
  | false=>rw [hd,(hq rfl).1,(hq rfl).2];exact h2
 exact wpList_lookup_own_ok w hg m x _ hop 21 105 B8 Tryz.underlying60 Raw (MW w) vA [] rfl mb n D hm hown (.int .i32 r) (pU r) hx (GD h0 h1) (fun v ps hv=>by
  rw [h3.1]at hv;unfold Raw at hv;injection hv with hv;injection hv with hv;injection hv with hv;subst hv;rw [h3.2];exact hK)
def pn (w:World) (mb n:Nat):Prop:=∃ D:DataW Value,w.ownsMap Tryz.prog 68 Raw mb n D
theorem pn.made (w:World):pn (w.alloc (.map #[] 0)) w.heap.size 0:=⟨.map [],World.ownsMap_made _ _ _ _⟩
theorem pn.keep {w w':World} {mb n:Nat} (h:pn w mb n) (hm:w'.heap[mb]? = w.heap[mb]?):pn w' mb n:=by
 obtain⟨D,es,clock,h1,h2⟩:=h;exact⟨D,es,clock,hm.trans h1,h2⟩
theorem pn.lt {w:World} {mb n:Nat} (h:pn w mb n):mb<w.heap.size:=by
 obtain⟨D,h1⟩:=h;exact h1.lt
theorem Hw:WideMaps.ArrKey Tryz.prog 68 21 2:=⟨Tryz.underlying68,by kernel_rfl,by kernel_rfl,by kernel_rfl⟩
theorem FO:∃ m,Tryz.prog.types.size=m+1:=⟨Tryz.prog.types.size - 1,by kernel_rfl⟩
theorem JX:Keyed Tryz.prog 68:=Keyed.of_law Hw.law
theorem GI {r:Int} (h0 : -2147483648≤r) (h1:r≤2147483647):(Lit.int .i32 r).wf=true:=WalkArith.wf_i32 ⟨h0,h1⟩
theorem vN {w:World} {ops:Array Oper} {rest:List Oper} {o:Oper} {a:Act} {Q:Exit→Act→World→Prop} (hg:o.guard=none) (m x v:Operand) (hop:o.op=Op.mapUpdate 61 m x v)
    (mb n:Nat) (hm:a.eval m=.map (some mb)) (hM:pn w mb n) (hn:n<maxLen) (b c r:Int) (hx:a.eval x=.agg #[.int .i32 b,.int .i32 c]) (hv:a.eval v=.int .i32 r) (h0 : -2147483648≤b) (h1:b≤2147483647) (h2 : -2147483648≤c) (h3:c≤2147483647)
    (hK:∀ w',pn w' mb (n+1)→w.grownBy w' (some mb)→wpList Tryz.prog ops Q rest (a.put o.dst undef) w'):wpList Tryz.prog ops Q (o::rest) a w:=by
 obtain⟨D,hown⟩:=hM;exact wpList_mapUpdate_own w hg m x v _ hop 68 21 JX Tryz.underlying61 Raw mb n D hm hown hn _ _ _ hx hv (WideMaps.keyOf_pair Hw Tryz.underlying21 FO (GI h0 h1) (GI h2 h3)) (.held (.int .i32 r)) [] rfl fun w' h2 h3=>hK w' ⟨_,h2⟩ h3
end Go.Proofs.YtblinekbpcdbfaaGreatDoor
