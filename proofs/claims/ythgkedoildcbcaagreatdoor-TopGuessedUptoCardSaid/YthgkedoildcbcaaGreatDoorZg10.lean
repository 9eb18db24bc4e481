/- OpenSpans + Parts + Item + Items + Side + SideMore + Told + SideWalk + PartP + PartRule -/
import Derived.Test.YthgkedoildcbcaaGreatDoorZg4
import Derived.Test.YthgkedoildcbcaaGreatDoorZg8
import Derived.Test.YthgkedoildcbcaaGreatDoorZg3
import Derived.Test.YthgkedoildcbcaaGreatDoorZg6
import Derived.Deep.QuietTactic
import Derived.BigQuiet
set_option maxHeartbeats 3200000
set_option maxRecDepth 100000
namespace Go.Proofs.YthgkedoildcbcaaGreatDoor
open Go.RowKit Go.ChangeShapes Go.WideShapes Go.ChangeAt
section
variable {H : Type} {enc : TypeId × Value → H} {w : World}
theorem IZ {m:Nat} {cs:List Value} {y:DataW H × List MemPlace} (h:DataW.trod enc Tryz.prog w 0 (fun _=>true) true m 77 cs=some y):∃ z:Int × Int,cs = [.int .i32 z.1,.int .i32 z.2]:=by
 have c1 : Tryz.prog.cellsOf 21 = 1:=(by kernel_rfl);have c2 : Tryz.prog.cellsOf 77 = 2:=(by kernel_rfl);obtain⟨y0,y1,n,_,hl,h0,h1⟩:=trod_struct2 Tryz.underlying77 h;dsimp only at h0 h1;rw [c1]at h0 h1;rw [c2]at hl;obtain⟨a,e0,_,_⟩:=DataW.trod_int Tryz.underlying21 h0;obtain⟨b,e1,_,_⟩:=DataW.trod_int Tryz.underlying21 h1;match cs,hl with
 | [u,v],_=>
  simp at e0 e1;exact⟨(a,b),by rw [e0,e1]⟩
theorem E2 {fuel n c:Nat} {A:Option Addr} {x:DataW H × List MemPlace} (h:DataW.trod enc Tryz.prog w 0 (fun _=>true) true fuel 41 [.slice A n c] = some x) :
    n≤c∧c≤maxLen∧(∃ l,jz w w.heap.size A n l)∧((x.1=.nil∧c=0)∨∃ elems spare,x.1=.slice elems spare∧elems.length+spare.length=c):=by
 obtain⟨h1,h2,l,css,hl,hc,hR,_,hrd,hx⟩:=H6 Tryz.underlying41 (sz:=2) (by kernel_rfl) (by decide) h (fun(z:Int × Int) cs=>cs = [.int .i32 z.1,.int .i32 z.2]) (fun m cs y hy=>IZ hy);rw [De (fun z:Int × Int=>[.int .i32 z.1,.int .i32 z.2]) l css (by omega) hR]at hrd;exact⟨h1,h2,⟨l,hrd⟩,hx⟩
end
end Go.Proofs.YthgkedoildcbcaaGreatDoor
namespace Go.Proofs.YthgkedoildcbcaaGreatDoor
open Go.RowKit Go.ChangeShapes Go.WideShapes Go.ChangeAt
def jR {α:Type} (R:α→List Value→Prop) (w:World) (B sz:Nat) (A:Option Addr) (n:Nat) (l:List α):Prop :=
  ∃ css:List (List Value),l.length=n∧css.length=n∧(∀ (i:Nat) (a:α) (cs:List Value),l[i]? = some a→css[i]? = some cs→R a cs)∧(∀ cs∈css,cs.length=sz)∧Rd w B sz A n css.flatten
theorem jR.len {α:Type} {R:α→List Value→Prop} {w:World} {B sz n:Nat} {A:Option Addr} {l:List α} (h:jR R w B sz A n l):l.length=n:=by
 obtain⟨_,h1,_⟩:=h;exact h1
theorem jR.at {α:Type} {R:α→List Value→Prop} {w:World} {B sz n:Nat} {A:Option Addr} {l:List α} (h:jR R w B sz A n l) {k:Nat} {a:α} (hk:l[k]? = some a) :
    ∃ (b off:Nat) (cs:List Value),A=some ⟨b,off,none⟩∧b<B∧R a cs∧∀ j u,cs[j]? = some u→w.cell? ⟨b,off+k*sz+j,none⟩=some u:=by
 obtain⟨css,h1,h2,h3,h4,h5,h6⟩:=h;have hlt:k<l.length:=(List.getElem?_eq_some_iff.1 hk).1;obtain⟨b,off,e,hb,hc⟩:=h6 (by omega);obtain⟨cs,hcs⟩:∃ cs,css[k]? = some cs:=⟨_,List.getElem?_eq_getElem (by omega)⟩;refine⟨b,off,cs,e,hb,h3 k a cs hk hcs,fun j u hu=>?_⟩;rw [Nat.add_assoc];exact hc _ _ (dR h4 k cs hcs j u hu)
theorem jR.weak {α:Type} {R R':α→List Value→Prop} {w w':World} {B B' sz n:Nat} {A:Option Addr} {l:List α} (h:jR R w B sz A n l) (hR:∀ a cs,R a cs→R' a cs) (hw:∀ xs,Rd w B sz A n xs→Rd w' B' sz A n xs):jR R' w' B' sz A n l:=by
 obtain⟨css,h1,h2,h3,h4,h5⟩:=h;exact⟨css,h1,h2,fun i a cs ha hc=>hR a cs (h3 i a cs ha hc),h4,hw _ h5⟩
structure aG where
  kind:Int
  rune:Int
  set:af
  name:ByteArray
structure bQ where
  start:Bool
  fin:Bool
  before:List aG
  source:List aG
  after:List aG
  ag:Int
structure aH where
  kind:Int
  name:ByteArray
  set:af
  dir:Int
  left:bQ
  right:bQ
def jY (n:Int):Prop:=-9223372036854775808≤n∧n≤9223372036854775807
def yx (w:World) (B:Nat) (a:aG) (cs:List Value):Prop :=
  ∃ A n c,cs = [.int .i64 a.kind,.int .i32 a.rune,.slice A n c,.string a.name]∧jz w B A n a.set∧n≤maxLen∧jY a.kind∧a.name.size≤maxLen
def bO (w:World) (B:Nat) (A:Option Addr) (n:Nat) (l:List aG):Prop:=jR (yx w B) w B 4 A n l
def tc (w:World) (B:Nat) (s:bQ) (cs:List Value):Prop :=
  ∃ A1 n1 c1 A2 n2 c2 A3 n3 c3,cs = [.bool s.start,.bool s.fin,.slice A1 n1 c1,.slice A2 n2 c2,.slice A3 n3 c3,.int .i64 s.ag] ∧
    bO w B A1 n1 s.before∧bO w B A2 n2 s.source∧bO w B A3 n3 s.after∧n1≤maxLen∧n2≤maxLen∧n3≤maxLen∧jY s.ag
def yT (w:World) (B:Nat) (p:aH) (cs:List Value):Prop :=
  ∃ A n c ls rs,cs = [.int .i64 p.kind,.string p.name,.slice A n c,.int .i64 p.dir]++ls++rs∧jz w B A n p.set∧n≤maxLen∧tc w B p.left ls∧tc w B p.right rs∧jY p.kind∧jY p.dir∧p.name.size≤maxLen
def AV (w:World) (B:Nat) (A:Option Addr) (n:Nat) (l:List aH):Prop:=jR (yT w B) w B 16 A n l
section
variable {w w' : World} {B B' : Nat}
theorem yx.weak {a:aG} {cs:List Value} (hw:∀ A sz n xs,Rd w B sz A n xs→Rd w' B' sz A n xs) (h:yx w B a cs):yx w' B' a cs:=by
 obtain⟨A,n,c,e,h1,h2⟩:=h;exact⟨A,n,c,e,hw _ _ _ _ h1,h2⟩
theorem bO.weak {A:Option Addr} {n:Nat} {l:List aG} (hw:∀ A sz n xs,Rd w B sz A n xs→Rd w' B' sz A n xs) (h:bO w B A n l):bO w' B' A n l :=
  jR.weak h (fun _ _=>yx.weak hw) (hw _ _ _)
theorem tc.weak {s:bQ} {cs:List Value} (hw:∀ A sz n xs,Rd w B sz A n xs→Rd w' B' sz A n xs) (h:tc w B s cs):tc w' B' s cs:=by
 obtain⟨A1,n1,c1,A2,n2,c2,A3,n3,c3,e,h1,h2,h3,h4⟩:=h;exact⟨A1,n1,c1,A2,n2,c2,A3,n3,c3,e,bO.weak hw h1,bO.weak hw h2,bO.weak hw h3,h4⟩
theorem yT.weak {p:aH} {cs:List Value} (hw:∀ A sz n xs,Rd w B sz A n xs→Rd w' B' sz A n xs) (h:yT w B p cs):yT w' B' p cs:=by
 obtain⟨A,n,c,ls,rs,e,h1,h2,h3,h4,h5⟩:=h;exact⟨A,n,c,ls,rs,e,hw _ _ _ _ h1,h2,tc.weak hw h3,tc.weak hw h4,h5⟩
theorem AV.weak {A:Option Addr} {n:Nat} {l:List aH} (hw:∀ A sz n xs,Rd w B sz A n xs→Rd w' B' sz A n xs) (h:AV w B A n l):AV w' B' A n l :=
  jR.weak h (fun _ _=>yT.weak hw) (hw _ _ _)
theorem eO (hb:Below B w w') (hB:B≤B'):∀ A sz n xs,Rd w B sz A n xs→Rd w' B' sz A n xs:=fun _ _ _ _ h=>Rd.more (Rd.below h hb) hB
end
end Go.Proofs.YthgkedoildcbcaaGreatDoor
namespace Go.Proofs.YthgkedoildcbcaaGreatDoor
open Go.RowKit
def mT (a:aG):Int :=
  if a.kind=1 then (if bT a.rune=true then 0 else 3)else if a.kind=2 then bA a.set else if a.kind=3 then (if ee a.name=true then 0 else 7)else 1
def KI (a:aG) (A:Option Addr) (n c:Nat):Value:=.agg #[.int .i64 a.kind,.int .i32 a.rune,.slice A n c,.string a.name]
theorem rB {w:World} {A:Option Addr} {n:Nat} {l:af} (h:jz w w.heap.size A n l) (o:Obj):jz (w.alloc o) (w.alloc o).heap.size A n l :=
  eO ((Below.refl _ _).alloc (Nat.le_refl _) o) (by simp) _ _ _ _ h
theorem Az (a:aG) (A:Option Addr) (n c:Nat) (w:World) (hn:n≤9223372036854775807) (hs:jz w w.heap.size A n a.set) :
    Calls Tryz.prog 114 #[KI a A n c] w fun e w'=>e=.returned (.int .i64 (mT a))∧Below w.heap.size w w':=by
 obtain⟨kind,rune,set,name⟩:=a;have hbA:∀ o,Below w.heap.size w (w.alloc o):=fun o=>(Below.refl _ _).alloc (Nat.le_refl _) o;have HS:=qqh (rB hs);have HB:=qqh hbA;clear hs hbA;unfold KI mT;dsimp only;by_cases h1:kind=1
 ·subst h1;rw [if_pos rfl];cases hr:bT rune
  all_goals
    go_enter Tryz.func114,Tryz.ntmps114
    go_wp2_with (go_at_call 29;refine(fm _ _).mono ?_;rintro e w' ⟨rfl,rfl⟩;rw [hr])
    go_ret
    exact⟨rfl,HB.out _⟩
 by_cases h2:kind=2
 ·subst h2;rw [if_neg h1,if_pos rfl];go_enter Tryz.func114,Tryz.ntmps114;go_wp2_with fail;refine(gR A n c set _ hn (HS.out _)).mono ?_;rintro e w' ⟨rfl,hb⟩;go_wp2_with fail;go_ret;exact⟨rfl,(HB.out _).trans (hb.mono (by simp))⟩
 have e1:(kind == 1)=false:=(by simpa using h1);have e2:(kind == 2)=false:=(by simpa using h2);by_cases h3:kind=3
 ·subst h3;rw [if_neg h1,if_neg h2,if_pos rfl];cases hr:ee name
  all_goals
    go_enter Tryz.func114,Tryz.ntmps114
    go_wp2_with (go_at_call 88;refine(iU _ _).mono ?_;rintro e w' ⟨rfl,rfl⟩;rw [hr])
    go_ret
    exact⟨rfl,HB.out _⟩
 have e3:(kind == 3)=false:=(by simpa using h3);rw [if_neg h1,if_neg h2,if_neg h3];clear h1 h2 h3;go_enter Tryz.func114,Tryz.ntmps114;go_wp2_with fail;go_ret;exact⟨rfl,HB.out _⟩
end Go.Proofs.YthgkedoildcbcaaGreatDoor
namespace Go.Proofs.YthgkedoildcbcaaGreatDoor
open Go.RowKit
def kT:List aG→Int
  | []=>0
  | a::r=>if mT a=0 then kT r else mT a
def b7 (l:List aG):Int:=if 20<l.length then 5 else kT l
theorem uu {w:World} {B n:Nat} {A:Option Addr} {l:List aG} (h:bO w B A n l) {k:Nat} {a:aG} (hk:l[k]? = some a) :
    ∃ (b off:Nat) (A':Option Addr) (n' c':Nat),A=some ⟨b,off,none⟩∧b<B∧w.cell? ⟨b,off+k*4,none⟩=some (.int .i64 a.kind)∧w.cell? ⟨b,off+k*4+1,none⟩=some (.int .i32 a.rune) ∧
      w.cell? ⟨b,off+k*4+2,none⟩=some (.slice A' n' c')∧w.cell? ⟨b,off+k*4+3,none⟩=some (.string a.name)∧jz w B A' n' a.set∧n'≤maxLen∧jY a.kind∧a.name.size≤maxLen:=by
 obtain⟨b,off,cs,e,hb,⟨A',n',c',hcs,h1,h2,h3,h4⟩,hc⟩:=jR.at h hk;subst hcs;exact⟨b,off,A',n',c',e,hb,hc 0 _ rfl,hc 1 _ rfl,hc 2 _ rfl,hc 3 _ rfl,h1,h2,h3,h4⟩
def V5 (W:World) (l:List aG) (n:Nat) (i:Value) (wr:World):Prop :=
  ∃ k:Nat,k≤n∧i=.int .i64 k∧kT l=kT (l.drop k)∧Below W.heap.size W wr
end Go.Proofs.YthgkedoildcbcaaGreatDoor
namespace Go.Proofs.YthgkedoildcbcaaGreatDoor
open Go.RowKit
def eY:List (List aG)→Int
  | []=>0
  | l::r=>if b7 l=0 then eY r else b7 l
def bN (s:bQ) (fJ:Bool):Int :=
  if eY [s.before,s.source,s.after] = 0 then
    (if s.ag < -1∨(s.source.length:Int)<s.ag then 3 else if fJ=true∧s.source.length=0 then 6 else 0)
  else eY [s.before,s.source,s.after]
def gi (l:List aG):Bool:=l.all fun a=>a.kind == 1
def mD (s:bQ):Bool:=s.start || s.fin || decide (0<s.before.length) || decide (0<s.after.length)
theorem kS {l:List aG} (h:b7 l=0):l.length≤20:=by
 unfold b7 at h;by_cases h1:20<l.length
 ·rw [if_pos h1]at h;cases h
 omega
theorem En {w:World} {A:Option Addr} {n:Nat} {l:List aG} (h:bO w w.heap.size A n l) (o:Obj):bO (w.alloc o) (w.alloc o).heap.size A n l :=
  bO.weak (eO ((Below.refl _ _).alloc (Nat.le_refl _) o) (by simp)) h
theorem aL {w w':World} {A:Option Addr} {n:Nat} {l:List aG} (h:bO w w.heap.size A n l) (hb:Below w.heap.size w w'):bO w' w'.heap.size A n l :=
  bO.weak (eO hb hb.size) h
end Go.Proofs.YthgkedoildcbcaaGreatDoor
namespace Go.Proofs.YthgkedoildcbcaaGreatDoor
open Go.RowKit
theorem Fi (a:aG) (l:List aG):gi (a::l)=((a.kind == 1) && gi l):=rfl
def V4 (W:World) (l:List aG) (n:Nat) (i:Value) (wr:World):Prop :=
  ∃ k:Nat,k≤n∧i=.int .i64 k∧gi l=gi (l.drop k)∧Below W.heap.size W wr
theorem gA (s:bQ) (A1 A2 A3:Option Addr) (n1 n2 n3 c1 c2 c3:Nat) (w:World) (h1:s.before.length=n1) (h3:s.after.length=n3) (m1:n1≤20) (m3:n3≤20) :
    Calls Tryz.prog 92 #[.agg #[.bool s.start,.bool s.fin,.slice A1 n1 c1,.slice A2 n2 c2,.slice A3 n3 c3,.int .i64 s.ag]] w fun e w'=>e=.returned (.bool (!mD s))∧Below w.heap.size w w':=by
 have hv:mD s=(s.start || s.fin || decide (0<n1) || decide (0<n3)):=(by unfold mD;rw [h1,h3]);rw [hv];clear hv h1 h3;obtain⟨start,fin,before,l,after,ag⟩:=s;dsimp only;cases start <;> cases fin
 ·go_enter Tryz.func92,Tryz.ntmps92;go_wp2_with fail;go_ret;exact⟨bg (by rw [Bool.eq_iff_iff];simp;omega),(Below.refl _ _).alloc (Nat.le_refl _) _⟩
 all_goals
   go_enter Tryz.func92,Tryz.ntmps92
   go_wp2_with fail
   go_ret
   exact⟨bg (by simp),(Below.refl _ _).alloc (Nat.le_refl _) _⟩
theorem JH (a:aG) (A:Option Addr) (n c:Nat) (w:World) :
    Calls Tryz.prog 116 #[.agg #[.int .i64 a.kind,.int .i32 a.rune,.slice A n c,.string a.name]] w fun e w'=>e=.returned (.bool (a.kind != 1))∧Below w.heap.size w w':=by
 go_enter Tryz.func116,Tryz.ntmps116;go_wp2_with fail;go_ret;exact⟨rfl,(Below.refl _ _).alloc (Nat.le_refl _) _⟩
end Go.Proofs.YthgkedoildcbcaaGreatDoor
namespace Go.Proofs.YthgkedoildcbcaaGreatDoor
open Go.RowKit
theorem Em (A:Option Addr) (n c:Nat) (l:List aG) (fv:Value) (Xr:fv=.func (.func 116) #[] #[]) (w:World) (hl:bO w w.heap.size A n l) (m:n≤maxLen) :
    Calls Tryz.prog 134 #[.slice A n c,fv] w fun e w'=>(∃ z:Int,e=.returned (.int .i64 z)∧(decide (0≤z) = !gi l))∧Below w.heap.size w w':=by
 subst Xr;have aO:=qqh (jR.len hl);have HL:=qqh hl;have hn2:n≤9223372036854775807:=(by unfold maxLen at m;omega);clear hl m;go_enter Tryz.func134,Tryz.ntmps134;go_wp2_with fail;go_loopw [8] (V4 w l n) (fun i _=>n - (intOf i).toNat);(case atStart=>exact⟨0,Nat.zero_le _,rfl,rfl,Below.refl _ _⟩);obtain⟨k,hk,rfl,aV,hb⟩:=hrel;have hz:=hb.size;by_cases hlt:k<n
 ·obtain⟨a,ha⟩:∃ z,l[k]? = some z:=⟨_,List.getElem?_eq_getElem (by rw [aO.out];exact hlt)⟩;rw [cW ha,Fi]at aV;obtain⟨b,off,A',n',c',rfl,cC,c0,Sw,Mx,c3',_,_,_,_⟩:=uu HL.out ha;have d0:=(hb.cell (p:=⟨b,off+k*4,none⟩) cC).trans c0;have d1:=(hb.cell (p:=⟨b,off+k*4+1,none⟩) cC).trans Sw;have d2:=(hb.cell (p:=⟨b,off+k*4+2,none⟩) cC).trans Mx;have d3:=(hb.cell (p:=⟨b,off+k*4+3,none⟩) cC).trans c3';have HT:=qqh (JH a A' n' c' wr);clear c0 Sw Mx c3';by_cases hk1:a.kind=1
  ·have HG:=qqh (aV.trans (show(a.kind == 1 && gi (l.drop (k+1)))=gi (l.drop (k+1)) by simp [hk1]));have hk2:(a.kind != 1)=false:=(by simpa using hk1);clear aV hk1;go_wp2_with fail;refine HT.out.mono ?_;rintro e w2 ⟨rfl,aR⟩;have bL:=hb.trans (aR.mono hz);rw [hk2];clear aR;go_wp2_with fail;exact⟨⟨k+1,by omega,by go_num,HG.out,bL⟩,by simp [intOf];omega⟩
  have HG:=qqh (aV.trans (show(a.kind == 1 && gi (l.drop (k+1)))=false by simp [hk1]));have hk2:(a.kind != 1)=true:=(by simpa using hk1);clear aV hk1;go_wp2_with fail;refine HT.out.mono ?_;rintro e w2 ⟨rfl,aR⟩;have bL:=hb.trans (aR.mono hz);rw [hk2];clear aR;go_wp2_with fail;go_ret;exact⟨⟨_,rfl,by rw [HG.out];simp⟩,bL⟩
 obtain rfl:k=n:=(by omega);rw [List.drop_of_length_le (by rw [aO.out];omega)]at aV;have HG:=qqh (aV.trans (show gi [] = true from rfl));clear aV;go_wp2_with fail;go_ret;exact⟨⟨_,rfl,by rw [HG.out];simp⟩,hb⟩
theorem K8 (A:Option Addr) (n c:Nat) (l:List aG) (fv:Value) (Xr:fv=.func (.func 116) #[] #[]) (w:World) (hl:bO w w.heap.size A n l) (m:n≤maxLen) :
    Calls Tryz.prog 115 #[.slice A n c,fv] w fun e w'=>e=.returned (.bool (!gi l))∧Below w.heap.size w w':=by
 have H:=qqh (Em A n c l fv Xr w hl m);clear hl m Xr;go_enter Tryz.func115,Tryz.ntmps115;go_wp2_with fail;refine H.out.mono ?_;rintro e w2 ⟨⟨z,rfl,hz⟩,hb⟩;have HZ:=qqh hz;clear hz;go_wp2_with fail;go_ret;exact⟨bg HZ.out,hb⟩
theorem gC (s:bQ) (A1 A2 A3:Option Addr) (n1 n2 n3 c1 c2 c3:Nat) (w:World) (h2:bO w w.heap.size A2 n2 s.source) (m2:n2≤maxLen) :
    Calls Tryz.prog 91 #[.agg #[.bool s.start,.bool s.fin,.slice A1 n1 c1,.slice A2 n2 c2,.slice A3 n3 c3,.int .i64 s.ag]] w fun e w'=>e=.returned (.bool (gi s.source))∧Below w.heap.size w w':=by
 obtain⟨start,fin,before,l,after,ag⟩:=s;dsimp only at h2 ⊢;have H:=qqh (fun o=>K8 A2 n2 c2 l _ rfl (w.alloc o) (En h2 o) m2);have HB:=qqh (fun o=>(Below.refl w.heap.size w).alloc (Nat.le_refl _) o);clear h2 m2;go_enter Tryz.func91,Tryz.ntmps91;go_wp2_with fail;refine(H.out _).mono ?_;rintro e w2 ⟨rfl,hb⟩;have aR:=(HB.out _).trans (hb.mono (by simp));clear hb;go_wp2_with fail;go_ret;exact⟨bg (by simp),aR⟩
end Go.Proofs.YthgkedoildcbcaaGreatDoor
namespace Go.Proofs.YthgkedoildcbcaaGreatDoor
open Go.RowKit
def T9 (W:World) (s:bQ) (i:Value) (wr:World):Prop :=
  ∃ j:Nat,j≤3∧i=.int .i64 j∧eY [s.before,s.source,s.after] = eY ([s.before,s.source,s.after].drop j)∧Below W.heap.size W wr
theorem all_cons (l:List aG) (r:List (List aG)):eY (l::r)=if b7 l=0 then eY r else b7 l:=rfl
theorem I1 (s:bQ) (W:World) (A1 A2 A3:Option Addr) (n1 n2 n3 c1 c2 c3:Nat) (h1:bO W W.heap.size A1 n1 s.before) (h2:bO W W.heap.size A2 n2 s.source) (h3:bO W W.heap.size A3 n3 s.after) (m1:n1≤maxLen) (m2:n2≤maxLen) (m3:n3≤maxLen) (j:Nat) (hj:j<3) :
    ∃ (A:Option Addr) (n c:Nat) (l:List aG),(#[.slice A1 n1 c1,.slice A2 n2 c2,.slice A3 n3 c3]:Array Value)[j]? = some (.slice A n c)∧bO W W.heap.size A n l∧n≤maxLen ∧ [s.before,s.source,s.after].drop j=l::[s.before,s.source,s.after].drop (j+1):=by
 match j,hj with
 | 0,_=>exact⟨A1,n1,c1,s.before,rfl,h1,m1,rfl⟩
 | 1,_=>exact⟨A2,n2,c2,s.source,rfl,h2,m2,rfl⟩
 | 2,_=>exact⟨A3,n3,c3,s.after,rfl,h3,m3,rfl⟩
theorem gu (s:bQ) (fJ:Bool) (A1 A2 A3:Option Addr) (n1 n2 n3 c1 c2 c3:Nat) (w:World) (h1:bO w w.heap.size A1 n1 s.before) (h2:bO w w.heap.size A2 n2 s.source) (h3:bO w w.heap.size A3 n3 s.after) (m1:n1≤maxLen) (m2:n2≤maxLen) (m3:n3≤maxLen) :
    Calls Tryz.prog 90 #[.agg #[.bool s.start,.bool s.fin,.slice A1 n1 c1,.slice A2 n2 c2,.slice A3 n3 c3,.int .i64 s.ag],.bool fJ] w fun e w'=>e=.returned (.int .i64 (bN s fJ))∧Below w.heap.size w w':=by
 have ia:=jR.len h2;generalize hcs:(#[.bool s.start,.bool s.fin,.slice A1 n1 c1,.slice A2 n2 c2,.slice A3 n3 c3,.int .i64 s.ag]:Array Value)=cs;have aP:Below w.heap.size w (w.alloc (.cells cs 95)):=(Below.refl _ _).alloc (Nat.le_refl _) _;have aR:Below w.heap.size w ((w.alloc (.cells cs 95)).alloc (.cells #[.slice A1 n1 c1,.slice A2 n2 c2,.slice A3 n3 c3] 93)):=aP.alloc aP.size _;have hk1:ai ((w.alloc (.cells cs 95)).alloc (.cells #[.slice A1 n1 c1,.slice A2 n2 c2,.slice A3 n3 c3] 93)) w.heap.size 95 cs:=(ai.new _ _ _).alloc _;have hk2:ai ((w.alloc (.cells cs 95)).alloc (.cells #[.slice A1 n1 c1,.slice A2 n2 c2,.slice A3 n3 c3] 93)) (w.heap.size+1) 93 #[.slice A1 n1 c1,.slice A2 n2 c2,.slice A3 n3 c3]:=by
  have:=ai.new (w.alloc (.cells cs 95)) 93 #[.slice A1 n1 c1,.slice A2 n2 c2,.slice A3 n3 c3];simpa using this
 have gP:=qqh (I1 s _ A1 A2 A3 n1 n2 n3 c1 c2 c3 (aL h1 aR) (aL h2 aR) (aL h3 aR) m1 m2 m3);have hm2:n2≤9223372036854775807:=(by unfold maxLen at m2;omega);have HB:=qqh aR;have MG:=qqh hk1;have P5:=qqh hk2;clear h1 h2 h3 m1 m2 m3 aP aR hk1 hk2;subst hcs;go_enter Tryz.func90,Tryz.ntmps90;go_wp2_with fail;generalize hW:((w.alloc (.cells #[.bool s.start,.bool s.fin,.slice A1 n1 c1,.slice A2 n2 c2,.slice A3 n3 c3,.int .i64 s.ag] 95)).alloc (.cells #[.slice A1 n1 c1,.slice A2 n2 c2,.slice A3 n3 c3] 93))=W at *;clear hW;go_loopw [18] (T9 W s) (fun i _=>3 - (intOf i).toNat);(case atStart=>exact⟨0,by omega,rfl,rfl,Below.refl _ _⟩);obtain⟨j,hj,rfl,hall,hb⟩:=hrel;have hz:=hb.size;by_cases hj3:j<3
 ·obtain⟨A,n,c,l,hc,hl,hm,hd⟩:=gP.out j hj3;rw [hd,all_cons l]at hall;have dj:wr.cell? ⟨w.heap.size+1,j,none⟩=some (.slice A n c):=by
   rw [(ai.below P5.out hb P5.out.lt).cell j];exact hc
  have ht:decide ((j:Int)<3)=true:=decide_eq_true (by omega);have aO:=qqh (jR.len hl);have HL:=qqh hl;have hn:n≤9223372036854775807:=(by unfold maxLen at hm;omega);clear hl hc hd hm;by_cases h20:20<n
  ·have Xp:b7 l=5:=(by unfold b7;rw [if_pos (by rw [aO.out];exact h20)]);rw [if_neg (by rw [Xp];decide),Xp]at hall;have HV:=qqh (show bN s fJ=5 by unfold bN;rw [hall];rfl);clear hall Xp;go_wp2_with fail;go_ret;rw [HV.out];exact⟨rfl,HB.out.trans (hb.mono HB.out.size)⟩
  have hlg:b7 l=kT l:=(by unfold b7;rw [if_neg (by rw [aO.out];exact h20)]);rw [hlg]at hall;have HA:=qqh hall;clear hall hlg;go_wp2_with fail;go_loopw [27] (V5 W l n) (fun i _=>n - (intOf i).toNat);(case atStart=>exact⟨0,Nat.zero_le _,rfl,rfl,hb⟩);clear hb hz;obtain⟨k,hk,rfl,aV,hb⟩:=hrel;have hz:=hb.size;by_cases hlt:k<n
  ·obtain⟨a,ha⟩:∃ z,l[k]? = some z:=⟨_,List.getElem?_eq_getElem (by rw [aO.out];exact hlt)⟩;rw [cW ha,kT]at aV;obtain⟨b,off,A',n',c',rfl,cC,d0,d1,d2,d3,xe,hn',_,hnm⟩:=uu HL.out ha;have d0:=(hb.cell (p:=⟨b,off+k*4,none⟩) cC).trans d0;have d1:=(hb.cell (p:=⟨b,off+k*4+1,none⟩) cC).trans d1;have d2:=(hb.cell (p:=⟨b,off+k*4+2,none⟩) cC).trans d2;have d3:=(hb.cell (p:=⟨b,off+k*4+3,none⟩) cC).trans d3;have aP:=fun o=>hb.alloc hz o;have HI:=qqh (fun o=>Az a A' n' c' (World.alloc _ o) (by unfold maxLen at hn';omega) (Rd.more (Rd.below xe (aP o)) (by simp;omega)));have bI:=qqh aP;clear xe aP hnm hn';unfold KI at HI;by_cases hi:mT a=0
   ·rw [if_pos hi]at aV;have HG:=qqh aV;clear aV;go_wp2_with fail;refine(HI.out _).mono ?_;rintro e w2 ⟨rfl,aR⟩;rw [hi];have bL:=(bI.out _).trans (aR.mono (by simp;omega));have bF:=qqh bL;clear aR bL;go_wp2_with fail;exact⟨⟨k+1,by omega,by go_num,HG.out,bF.out⟩,by simp [intOf];omega⟩
   rw [if_neg hi]at aV;have hi2:(mT a != 0)=true:=(by simpa using hi);have O8:=HA.out;rw [aV,if_neg hi]at O8;have HV:=qqh (show bN s fJ=mT a by unfold bN;rw [O8,if_neg hi]);clear aV hi O8;go_wp2_with fail;refine(HI.out _).mono ?_;rintro e w2 ⟨rfl,aR⟩;have bL:=(bI.out _).trans (aR.mono (by simp;omega));have bF:=qqh bL;clear aR bL;go_wp2_with fail;go_ret;rw [HV.out];exact⟨rfl,HB.out.trans (bF.out.mono HB.out.size)⟩
  obtain rfl:k=n:=(by omega);rw [List.drop_of_length_le (by rw [aO.out];omega)]at aV;have O8:=HA.out;rw [aV,if_pos (show kT [] = 0 from rfl)]at O8;have HG:=qqh O8;clear aV O8;go_wp2_with fail;exact⟨⟨j+1,by omega,by go_num,HG.out,hb⟩,by simp [intOf];omega⟩
 obtain rfl:j=3:=(by omega);have ha0:eY [s.before,s.source,s.after] = 0:=hall;have ie:=ai.below MG.out hb MG.out.lt;have d3:wr.cell? ⟨w.heap.size,3,none⟩=some (.slice A2 n2 c2):=ie.cell 3;have d5:wr.cell? ⟨w.heap.size,5,none⟩=some (.int .i64 s.ag):=ie.cell 5;have hb0:=HB.out.trans (hb.mono HB.out.size);have HS:=qqh (show bN s fJ=if s.ag < -1∨(n2:Int)<s.ag then 3 else if fJ=true∧n2=0 then 6 else 0 by unfold bN;rw [if_pos ha0,ia]);clear hall ha0 ie ia;have dF:=qqh hb0;clear hb0;by_cases hc:s.ag < -1∨(n2:Int)<s.ag
 ·have HV:=qqh (show bN s fJ=3 by rw [HS.out,if_pos hc]);rcases (show s.ag < -1∨(-1≤s.ag∧(n2:Int)<s.ag) by omega)with h | ⟨h,h'⟩
  all_goals
    clear hc
    go_wp2_with fail
    go_ret
    rw [HV.out]
    exact⟨rfl,dF.out⟩
 have hc1 : -1≤s.ag:=(by omega);have hc2:s.ag≤n2:=(by omega);cases hmust:fJ
 ·have HV:=qqh (show bN s false=0 by rw [← hmust,HS.out,if_neg hc,hmust];simp);subst hmust;clear hc;go_wp2_with fail;go_ret;rw [HV.out];exact⟨rfl,dF.out⟩
 subst hmust;by_cases h0:n2=0
 ·have HV:=qqh (show bN s true=6 by rw [HS.out,if_neg hc,h0];simp);have tG:((n2:Int) == 0)=true:=(by simp;omega);clear hc;go_wp2_with fail;go_ret;rw [HV.out];exact⟨rfl,dF.out⟩
 have HV:=qqh (show bN s true=0 by rw [HS.out,if_neg hc];simp [h0]);have tG:((n2:Int) == 0)=false:=(by simp;omega);clear hc;go_wp2_with fail;go_ret;rw [HV.out];exact⟨rfl,dF.out⟩
end Go.Proofs.YthgkedoildcbcaaGreatDoor
namespace Go.Proofs.YthgkedoildcbcaaGreatDoor
open Go.RowKit
def tP (dir:Int) (left right:bQ):Bool :=
  (dir == 2 || gi right.source) && (dir == 1 || gi left.source) && (dir != 1 || (!mD right && decide (left.ag<0))) && (dir != 2 || (!mD left && decide (right.ag<0)))
def cP (dir:Int) (left right:bQ):Int :=
  if dir<1∨3<dir then 1
  else if bN left (dir != 2)=0 then (if bN right (dir != 1)=0 then (if tP dir left right=true then 0 else 8)else bN right (dir != 1))
  else bN left (dir != 2)
def fG (p:aH):Int :=
  if p.kind=1 then (if ee p.name=true then bA p.set else 7)
  else if p.kind=3 then bA p.set
  else if p.kind=4 then (if jD p.name=true then 0 else 7)
  else if p.kind=2 then cP p.dir p.left p.right
  else 1
theorem H8 {s:bQ} (h:eY [s.before,s.source,s.after] = 0):s.before.length≤20∧s.source.length≤20∧s.after.length≤20:=by
 simp only [eY]at h;by_cases h1:b7 s.before=0
 ·rw [if_pos h1]at h;by_cases h2:b7 s.source=0
  ·rw [if_pos h2]at h;by_cases h3:b7 s.after=0;exact⟨kS h1,kS h2,kS h3⟩;rw [if_neg h3]at h;exact absurd h h3
  rw [if_neg h2]at h;exact absurd h h2
 rw [if_neg h1]at h;exact absurd h h1
theorem dM {s:bQ} {fJ:Bool} (h:bN s fJ=0):s.before.length≤20∧s.source.length≤20∧s.after.length≤20:=by
 unfold bN at h;by_cases h1:eY [s.before,s.source,s.after] = 0;exact H8 h1;rw [if_neg h1]at h;exact absurd h h1
end Go.Proofs.YthgkedoildcbcaaGreatDoor
namespace Go.Proofs.YthgkedoildcbcaaGreatDoor
open Go.RowKit
theorem EZ (name:ByteArray) (left right:bQ) (A:Option Addr) (n c:Nat) (L1 L2 L3 R1 R2 R3:Option Addr) (a1 a2 a3 x1 x2 x3 b1 b2 b3 y1 y2 y3:Nat) (w:World) (l1:bO w w.heap.size L1 a1 left.before) (l2:bO w w.heap.size L2 a2 left.source) (l3:bO w w.heap.size L3 a3 left.after) (zo:a1≤maxLen) (wQ:a2≤maxLen) (zF:a3≤maxLen) (r1:bO w w.heap.size R1 b1 right.before) (r2:bO w w.heap.size R2 b2 right.source) (r3:bO w w.heap.size R3 b3 right.after) (AT:b1≤maxLen) (wP:b2≤maxLen) (Ai:b3≤maxLen) :
    Calls Tryz.prog 62 #[.agg #[.int .i64 2,.string name,.slice A n c,.int .i64 1,.bool left.start,.bool left.fin,.slice L1 a1 x1,.slice L2 a2 x2,.slice L3 a3 x3,.int .i64 left.ag,.bool right.start,.bool right.fin,.slice R1 b1 y1,.slice R2 b2 y2,.slice R3 b3 y3,.int .i64 right.ag]] w fun e w'=>e=.returned (.int .i64 (cP 1 left right))∧Below w.heap.size w w':=by
 have SL:=qqh (fun w' (hb:Below w.heap.size w w') fJ=>gu left fJ L1 L2 L3 a1 a2 a3 x1 x2 x3 w' (aL l1 hb) (aL l2 hb) (aL l3 hb) zo wQ zF);have TL:=qqh (fun w' (hb:Below w.heap.size w w')=>gC left L1 L2 L3 a1 a2 a3 x1 x2 x3 w' (aL l2 hb) wQ);have BL:=qqh (fun w' fJ (h0:bN left fJ=0)=>gA left L1 L2 L3 a1 a2 a3 x1 x2 x3 w' (jR.len l1) (jR.len l3) (by rw [← jR.len l1];exact(dM h0).1) (by rw [← jR.len l3];exact(dM h0).2.2));have SR:=qqh (fun w' (hb:Below w.heap.size w w') fJ=>gu right fJ R1 R2 R3 b1 b2 b3 y1 y2 y3 w' (aL r1 hb) (aL r2 hb) (aL r3 hb) AT wP Ai);have TR:=qqh (fun w' (hb:Below w.heap.size w w')=>gC right R1 R2 R3 b1 b2 b3 y1 y2 y3 w' (aL r2 hb) wP);have BR:=qqh (fun w' fJ (h0:bN right fJ=0)=>gA right R1 R2 R3 b1 b2 b3 y1 y2 y3 w' (jR.len r1) (jR.len r3) (by rw [← jR.len r1];exact(dM h0).1) (by rw [← jR.len r3];exact(dM h0).2.2));clear l1 l2 l3 r1 r2 r3 zo wQ zF AT wP Ai;have dF:=qqh ((Below.refl w.heap.size w).alloc (Nat.le_refl _) (.cells #[.int .i64 2,.string name,.slice A n c,.int .i64 1,.bool left.start,.bool left.fin,.slice L1 a1 x1,.slice L2 a2 x2,.slice L3 a3 x3,.int .i64 left.ag,.bool right.start,.bool right.fin,.slice R1 b1 y1,.slice R2 b2 y2,.slice R3 b3 y3,.int .i64 right.ag] 97));have gY:=qqh (ai.new w 97 #[.int .i64 2,.string name,.slice A n c,.int .i64 1,.bool left.start,.bool left.fin,.slice L1 a1 x1,.slice L2 a2 x2,.slice L3 a3 x3,.int .i64 left.ag,.bool right.start,.bool right.fin,.slice R1 b1 y1,.slice R2 b2 y2,.slice R3 b3 y3,.int .i64 right.ag]);go_enter Tryz.func62,Tryz.ntmps62;go_wp2_with fail
 generalize w.alloc (.cells #[.int .i64 2,.string name,.slice A n c,.int .i64 1,.bool left.start,.bool left.fin,.slice L1 a1 x1,.slice L2 a2 x2,.slice L3 a3 x3,.int .i64 left.ag,.bool right.start,.bool right.fin,.slice R1 b1 y1,.slice R2 b2 y2,.slice R3 b3 y3,.int .i64 right.ag] 97)=W0 at *;have c0:W0.cell? ⟨w.heap.size,0,none⟩=some (.int .i64 2):=gY.out.cell 0;have c3:W0.cell? ⟨w.heap.size,3,none⟩=some (.int .i64 1):=gY.out.cell 3;have c4:W0.cell? ⟨w.heap.size,4,none⟩=some (.bool left.start):=gY.out.cell 4;have c5:W0.cell? ⟨w.heap.size,5,none⟩=some (.bool left.fin):=gY.out.cell 5;have c6:W0.cell? ⟨w.heap.size,6,none⟩=some (.slice L1 a1 x1):=gY.out.cell 6;have c7:W0.cell? ⟨w.heap.size,7,none⟩=some (.slice L2 a2 x2):=gY.out.cell 7;have c8:W0.cell? ⟨w.heap.size,8,none⟩=some (.slice L3 a3 x3):=gY.out.cell 8;have c9:W0.cell? ⟨w.heap.size,9,none⟩=some (.int .i64 left.ag):=gY.out.cell 9;have c10:W0.cell? ⟨w.heap.size,10,none⟩=some (.bool right.start):=gY.out.cell 10;have c11:W0.cell? ⟨w.heap.size,11,none⟩=some (.bool right.fin):=gY.out.cell 11;have c12:W0.cell? ⟨w.heap.size,12,none⟩=some (.slice R1 b1 y1):=gY.out.cell 12;have c13:W0.cell? ⟨w.heap.size,13,none⟩=some (.slice R2 b2 y2):=gY.out.cell 13;have c14:W0.cell? ⟨w.heap.size,14,none⟩=some (.slice R3 b3 y3):=gY.out.cell 14;have c15:W0.cell? ⟨w.heap.size,15,none⟩=some (.int .i64 right.ag):=gY.out.cell 15;go_quiet (fail);go_wp2_with fail;refine(SL.out _ (below_drewN dF.out _) true).mono ?_;rintro e w1 ⟨rfl,hb⟩;have qA:=qqh (dF.out.trans (Below.trans (below_drewN (Below.refl _ _) _) (hb.mono (by exact Nat.le_refl _)) |>.mono dF.out.size));have jh:=qqh (ai.below (ai.drewN gY.out _) hb gY.out.lt);clear hb;have d10:w1.cell? ⟨w.heap.size,10,none⟩=some (.bool right.start):=jh.out.cell 10
 have d11:w1.cell? ⟨w.heap.size,11,none⟩=some (.bool right.fin):=jh.out.cell 11;have d12:w1.cell? ⟨w.heap.size,12,none⟩=some (.slice R1 b1 y1):=jh.out.cell 12;have d13:w1.cell? ⟨w.heap.size,13,none⟩=some (.slice R2 b2 y2):=jh.out.cell 13;have d14:w1.cell? ⟨w.heap.size,14,none⟩=some (.slice R3 b3 y3):=jh.out.cell 14;have d15:w1.cell? ⟨w.heap.size,15,none⟩=some (.int .i64 right.ag):=jh.out.cell 15;by_cases e1:bN left true=0
 ·have VB:(bN left true != 0)=false:=(by simp [e1]);go_wp2_with fail;refine(SR.out w1 qA.out false).mono ?_;rintro e w2 ⟨rfl,hb⟩;have iZ:=qqh (ai.below jh.out hb jh.out.lt);have qS:=qqh (qA.out.trans (hb.mono qA.out.size));clear hb;have d10:w2.cell? ⟨w.heap.size,10,none⟩=some (.bool right.start):=iZ.out.cell 10;have d11:w2.cell? ⟨w.heap.size,11,none⟩=some (.bool right.fin):=iZ.out.cell 11;have d12:w2.cell? ⟨w.heap.size,12,none⟩=some (.slice R1 b1 y1):=iZ.out.cell 12;have d13:w2.cell? ⟨w.heap.size,13,none⟩=some (.slice R2 b2 y2):=iZ.out.cell 13;have d14:w2.cell? ⟨w.heap.size,14,none⟩=some (.slice R3 b3 y3):=iZ.out.cell 14;have d15:w2.cell? ⟨w.heap.size,15,none⟩=some (.int .i64 right.ag):=iZ.out.cell 15;by_cases e2:bN right false=0
  ·have T3:(bN right false != 0)=false:=(by simp [e2]);go_wp2_with fail;refine(TR.out w2 qS.out).mono ?_;rintro e w3 ⟨rfl,hb⟩;have i7:=qqh (ai.below iZ.out hb iZ.out.lt);have tC:=qqh (qS.out.trans (hb.mono qS.out.size));clear hb;have d10:w3.cell? ⟨w.heap.size,10,none⟩=some (.bool right.start):=i7.out.cell 10;have d11:w3.cell? ⟨w.heap.size,11,none⟩=some (.bool right.fin):=i7.out.cell 11;have d12:w3.cell? ⟨w.heap.size,12,none⟩=some (.slice R1 b1 y1):=i7.out.cell 12;have d13:w3.cell? ⟨w.heap.size,13,none⟩=some (.slice R2 b2 y2):=i7.out.cell 13;have d14:w3.cell? ⟨w.heap.size,14,none⟩=some (.slice R3 b3 y3):=i7.out.cell 14;have d15:w3.cell? ⟨w.heap.size,15,none⟩=some (.int .i64 right.ag):=i7.out.cell 15;cases hp:gi right.source
   ·have HV:=qqh (show cP 1 left right=8 by simp [cP,tP,e1,e2,hp]);clear e1 e2 hp;go_wp2_with fail;go_ret;rw [HV.out];exact⟨rfl,tC.out⟩
   go_wp2_with fail;refine(BR.out w3 false e2).mono ?_;rintro e w4 ⟨rfl,hb⟩;have N4:=qqh (ai.below i7.out hb i7.out.lt);have xC:=qqh (tC.out.trans (hb.mono tC.out.size));clear hb;have d9:w4.cell? ⟨w.heap.size,9,none⟩=some (.int .i64 left.ag):=N4.out.cell 9;cases ha:mD right
   ·by_cases DI:left.ag<0
    ·have HV:=qqh (show cP 1 left right=0 by simp [cP,tP,e1,e2,hp,ha,DI]);clear e1 e2 hp ha;go_wp2_with fail;go_ret;rw [HV.out];exact⟨rfl,xC.out⟩
    have HV:=qqh (show cP 1 left right=8 by simp [cP,tP,e1,e2,hp,ha,DI]);clear e1 e2 hp ha;go_wp2_with fail;go_ret;rw [HV.out];exact⟨rfl,xC.out⟩
   have HV:=qqh (show cP 1 left right=8 by simp [cP,tP,e1,e2,hp,ha]);clear e1 e2 hp ha;go_wp2_with fail;go_ret;rw [HV.out];exact⟨rfl,xC.out⟩
  have T3:(bN right false != 0)=true:=(by simpa using e2);have HV:=qqh (show cP 1 left right=bN right false by simp [cP,e1,e2]);clear e1 e2;go_wp2_with fail;go_ret;rw [HV.out];exact⟨rfl,qS.out⟩
 have VB:(bN left true != 0)=true:=(by simpa using e1);have HV:=qqh (show cP 1 left right=bN left true by simp [cP,e1]);clear e1;go_wp2_with fail;go_ret;rw [HV.out];exact⟨rfl,qA.out⟩
theorem DN (name:ByteArray) (left right:bQ) (A:Option Addr) (n c:Nat) (L1 L2 L3 R1 R2 R3:Option Addr) (a1 a2 a3 x1 x2 x3 b1 b2 b3 y1 y2 y3:Nat) (w:World) (l1:bO w w.heap.size L1 a1 left.before) (l2:bO w w.heap.size L2 a2 left.source) (l3:bO w w.heap.size L3 a3 left.after) (zo:a1≤maxLen) (wQ:a2≤maxLen) (zF:a3≤maxLen) (r1:bO w w.heap.size R1 b1 right.before) (r2:bO w w.heap.size R2 b2 right.source) (r3:bO w w.heap.size R3 b3 right.after) (AT:b1≤maxLen) (wP:b2≤maxLen) (Ai:b3≤maxLen) :
    Calls Tryz.prog 62 #[.agg #[.int .i64 2,.string name,.slice A n c,.int .i64 2,.bool left.start,.bool left.fin,.slice L1 a1 x1,.slice L2 a2 x2,.slice L3 a3 x3,.int .i64 left.ag,.bool right.start,.bool right.fin,.slice R1 b1 y1,.slice R2 b2 y2,.slice R3 b3 y3,.int .i64 right.ag]] w fun e w'=>e=.returned (.int .i64 (cP 2 left right))∧Below w.heap.size w w':=by
 have SL:=qqh (fun w' (hb:Below w.heap.size w w') fJ=>gu left fJ L1 L2 L3 a1 a2 a3 x1 x2 x3 w' (aL l1 hb) (aL l2 hb) (aL l3 hb) zo wQ zF);have TL:=qqh (fun w' (hb:Below w.heap.size w w')=>gC left L1 L2 L3 a1 a2 a3 x1 x2 x3 w' (aL l2 hb) wQ);have BL:=qqh (fun w' fJ (h0:bN left fJ=0)=>gA left L1 L2 L3 a1 a2 a3 x1 x2 x3 w' (jR.len l1) (jR.len l3) (by rw [← jR.len l1];exact(dM h0).1) (by rw [← jR.len l3];exact(dM h0).2.2));have SR:=qqh (fun w' (hb:Below w.heap.size w w') fJ=>gu right fJ R1 R2 R3 b1 b2 b3 y1 y2 y3 w' (aL r1 hb) (aL r2 hb) (aL r3 hb) AT wP Ai);have TR:=qqh (fun w' (hb:Below w.heap.size w w')=>gC right R1 R2 R3 b1 b2 b3 y1 y2 y3 w' (aL r2 hb) wP);have BR:=qqh (fun w' fJ (h0:bN right fJ=0)=>gA right R1 R2 R3 b1 b2 b3 y1 y2 y3 w' (jR.len r1) (jR.len r3) (by rw [← jR.len r1];exact(dM h0).1) (by rw [← jR.len r3];exact(dM h0).2.2));clear l1 l2 l3 r1 r2 r3 zo wQ zF AT wP Ai;have dF:=qqh ((Below.refl w.heap.size w).alloc (Nat.le_refl _) (.cells #[.int .i64 2,.string name,.slice A n c,.int .i64 2,.bool left.start,.bool left.fin,.slice L1 a1 x1,.slice L2 a2 x2,.slice L3 a3 x3,.int .i64 left.ag,.bool right.start,.bool right.fin,.slice R1 b1 y1,.slice R2 b2 y2,.slice R3 b3 y3,.int .i64 right.ag] 97));have gY:=qqh (ai.new w 97 #[.int .i64 2,.string name,.slice A n c,.int .i64 2,.bool left.start,.bool left.fin,.slice L1 a1 x1,.slice L2 a2 x2,.slice L3 a3 x3,.int .i64 left.ag,.bool right.start,.bool right.fin,.slice R1 b1 y1,.slice R2 b2 y2,.slice R3 b3 y3,.int .i64 right.ag]);go_enter Tryz.func62,Tryz.ntmps62;go_wp2_with fail
 generalize w.alloc (.cells #[.int .i64 2,.string name,.slice A n c,.int .i64 2,.bool left.start,.bool left.fin,.slice L1 a1 x1,.slice L2 a2 x2,.slice L3 a3 x3,.int .i64 left.ag,.bool right.start,.bool right.fin,.slice R1 b1 y1,.slice R2 b2 y2,.slice R3 b3 y3,.int .i64 right.ag] 97)=W0 at *;have c0:W0.cell? ⟨w.heap.size,0,none⟩=some (.int .i64 2):=gY.out.cell 0;have c3:W0.cell? ⟨w.heap.size,3,none⟩=some (.int .i64 2):=gY.out.cell 3;have c4:W0.cell? ⟨w.heap.size,4,none⟩=some (.bool left.start):=gY.out.cell 4;have c5:W0.cell? ⟨w.heap.size,5,none⟩=some (.bool left.fin):=gY.out.cell 5;have c6:W0.cell? ⟨w.heap.size,6,none⟩=some (.slice L1 a1 x1):=gY.out.cell 6;have c7:W0.cell? ⟨w.heap.size,7,none⟩=some (.slice L2 a2 x2):=gY.out.cell 7;have c8:W0.cell? ⟨w.heap.size,8,none⟩=some (.slice L3 a3 x3):=gY.out.cell 8;have c9:W0.cell? ⟨w.heap.size,9,none⟩=some (.int .i64 left.ag):=gY.out.cell 9;have c10:W0.cell? ⟨w.heap.size,10,none⟩=some (.bool right.start):=gY.out.cell 10;have c11:W0.cell? ⟨w.heap.size,11,none⟩=some (.bool right.fin):=gY.out.cell 11;have c12:W0.cell? ⟨w.heap.size,12,none⟩=some (.slice R1 b1 y1):=gY.out.cell 12;have c13:W0.cell? ⟨w.heap.size,13,none⟩=some (.slice R2 b2 y2):=gY.out.cell 13;have c14:W0.cell? ⟨w.heap.size,14,none⟩=some (.slice R3 b3 y3):=gY.out.cell 14;have c15:W0.cell? ⟨w.heap.size,15,none⟩=some (.int .i64 right.ag):=gY.out.cell 15;go_quiet (fail);go_wp2_with fail;refine(SL.out _ (below_drewN dF.out _) false).mono ?_;rintro e w1 ⟨rfl,hb⟩;have qA:=qqh (dF.out.trans (Below.trans (below_drewN (Below.refl _ _) _) (hb.mono (by exact Nat.le_refl _)) |>.mono dF.out.size));have jh:=qqh (ai.below (ai.drewN gY.out _) hb gY.out.lt);clear hb;have d10:w1.cell? ⟨w.heap.size,10,none⟩=some (.bool right.start):=jh.out.cell 10
 have d11:w1.cell? ⟨w.heap.size,11,none⟩=some (.bool right.fin):=jh.out.cell 11;have d12:w1.cell? ⟨w.heap.size,12,none⟩=some (.slice R1 b1 y1):=jh.out.cell 12;have d13:w1.cell? ⟨w.heap.size,13,none⟩=some (.slice R2 b2 y2):=jh.out.cell 13;have d14:w1.cell? ⟨w.heap.size,14,none⟩=some (.slice R3 b3 y3):=jh.out.cell 14;have d15:w1.cell? ⟨w.heap.size,15,none⟩=some (.int .i64 right.ag):=jh.out.cell 15;by_cases e1:bN left false=0
 ·have VB:(bN left false != 0)=false:=(by simp [e1]);go_wp2_with fail;refine(SR.out w1 qA.out true).mono ?_;rintro e w2 ⟨rfl,hb⟩;have iZ:=qqh (ai.below jh.out hb jh.out.lt);have qS:=qqh (qA.out.trans (hb.mono qA.out.size));clear hb;have d4:w2.cell? ⟨w.heap.size,4,none⟩=some (.bool left.start):=iZ.out.cell 4;have d5:w2.cell? ⟨w.heap.size,5,none⟩=some (.bool left.fin):=iZ.out.cell 5;have d6:w2.cell? ⟨w.heap.size,6,none⟩=some (.slice L1 a1 x1):=iZ.out.cell 6;have d7:w2.cell? ⟨w.heap.size,7,none⟩=some (.slice L2 a2 x2):=iZ.out.cell 7;have d8:w2.cell? ⟨w.heap.size,8,none⟩=some (.slice L3 a3 x3):=iZ.out.cell 8;have d9:w2.cell? ⟨w.heap.size,9,none⟩=some (.int .i64 left.ag):=iZ.out.cell 9;by_cases e2:bN right true=0
  ·have T3:(bN right true != 0)=false:=(by simp [e2]);go_wp2_with fail;refine(TL.out w2 qS.out).mono ?_;rintro e w3 ⟨rfl,hb⟩;have i7:=qqh (ai.below iZ.out hb iZ.out.lt);have tC:=qqh (qS.out.trans (hb.mono qS.out.size));clear hb;have d4:w3.cell? ⟨w.heap.size,4,none⟩=some (.bool left.start):=i7.out.cell 4;have d5:w3.cell? ⟨w.heap.size,5,none⟩=some (.bool left.fin):=i7.out.cell 5;have d6:w3.cell? ⟨w.heap.size,6,none⟩=some (.slice L1 a1 x1):=i7.out.cell 6;have d7:w3.cell? ⟨w.heap.size,7,none⟩=some (.slice L2 a2 x2):=i7.out.cell 7;have d8:w3.cell? ⟨w.heap.size,8,none⟩=some (.slice L3 a3 x3):=i7.out.cell 8;have d9:w3.cell? ⟨w.heap.size,9,none⟩=some (.int .i64 left.ag):=i7.out.cell 9;cases hp:gi left.source
   ·have HV:=qqh (show cP 2 left right=8 by simp [cP,tP,e1,e2,hp]);clear e1 e2 hp;go_wp2_with fail;go_ret;rw [HV.out];exact⟨rfl,tC.out⟩
   go_wp2_with fail;refine(BL.out w3 false e1).mono ?_;rintro e w4 ⟨rfl,hb⟩;have N4:=qqh (ai.below i7.out hb i7.out.lt);have xC:=qqh (tC.out.trans (hb.mono tC.out.size));clear hb;have d15:w4.cell? ⟨w.heap.size,15,none⟩=some (.int .i64 right.ag):=N4.out.cell 15;cases ha:mD left
   ·by_cases DI:right.ag<0
    ·have HV:=qqh (show cP 2 left right=0 by simp [cP,tP,e1,e2,hp,ha,DI]);clear e1 e2 hp ha;go_wp2_with fail;go_ret;rw [HV.out];exact⟨rfl,xC.out⟩
    have HV:=qqh (show cP 2 left right=8 by simp [cP,tP,e1,e2,hp,ha,DI]);clear e1 e2 hp ha;go_wp2_with fail;go_ret;rw [HV.out];exact⟨rfl,xC.out⟩
   have HV:=qqh (show cP 2 left right=8 by simp [cP,tP,e1,e2,hp,ha]);clear e1 e2 hp ha;go_wp2_with fail;go_ret;rw [HV.out];exact⟨rfl,xC.out⟩
  have T3:(bN right true != 0)=true:=(by simpa using e2);have HV:=qqh (show cP 2 left right=bN right true by simp [cP,e1,e2]);clear e1 e2;go_wp2_with fail;go_ret;rw [HV.out];exact⟨rfl,qS.out⟩
 have VB:(bN left false != 0)=true:=(by simpa using e1);have HV:=qqh (show cP 2 left right=bN left false by simp [cP,e1]);clear e1;go_wp2_with fail;go_ret;rw [HV.out];exact⟨rfl,qA.out⟩
theorem EO (name:ByteArray) (left right:bQ) (A:Option Addr) (n c:Nat) (L1 L2 L3 R1 R2 R3:Option Addr) (a1 a2 a3 x1 x2 x3 b1 b2 b3 y1 y2 y3:Nat) (w:World) (l1:bO w w.heap.size L1 a1 left.before) (l2:bO w w.heap.size L2 a2 left.source) (l3:bO w w.heap.size L3 a3 left.after) (zo:a1≤maxLen) (wQ:a2≤maxLen) (zF:a3≤maxLen) (r1:bO w w.heap.size R1 b1 right.before) (r2:bO w w.heap.size R2 b2 right.source) (r3:bO w w.heap.size R3 b3 right.after) (AT:b1≤maxLen) (wP:b2≤maxLen) (Ai:b3≤maxLen) :
    Calls Tryz.prog 62 #[.agg #[.int .i64 2,.string name,.slice A n c,.int .i64 3,.bool left.start,.bool left.fin,.slice L1 a1 x1,.slice L2 a2 x2,.slice L3 a3 x3,.int .i64 left.ag,.bool right.start,.bool right.fin,.slice R1 b1 y1,.slice R2 b2 y2,.slice R3 b3 y3,.int .i64 right.ag]] w fun e w'=>e=.returned (.int .i64 (cP 3 left right))∧Below w.heap.size w w':=by
 have SL:=qqh (fun w' (hb:Below w.heap.size w w') fJ=>gu left fJ L1 L2 L3 a1 a2 a3 x1 x2 x3 w' (aL l1 hb) (aL l2 hb) (aL l3 hb) zo wQ zF);have TL:=qqh (fun w' (hb:Below w.heap.size w w')=>gC left L1 L2 L3 a1 a2 a3 x1 x2 x3 w' (aL l2 hb) wQ);have BL:=qqh (fun w' fJ (h0:bN left fJ=0)=>gA left L1 L2 L3 a1 a2 a3 x1 x2 x3 w' (jR.len l1) (jR.len l3) (by rw [← jR.len l1];exact(dM h0).1) (by rw [← jR.len l3];exact(dM h0).2.2));have SR:=qqh (fun w' (hb:Below w.heap.size w w') fJ=>gu right fJ R1 R2 R3 b1 b2 b3 y1 y2 y3 w' (aL r1 hb) (aL r2 hb) (aL r3 hb) AT wP Ai);have TR:=qqh (fun w' (hb:Below w.heap.size w w')=>gC right R1 R2 R3 b1 b2 b3 y1 y2 y3 w' (aL r2 hb) wP);have BR:=qqh (fun w' fJ (h0:bN right fJ=0)=>gA right R1 R2 R3 b1 b2 b3 y1 y2 y3 w' (jR.len r1) (jR.len r3) (by rw [← jR.len r1];exact(dM h0).1) (by rw [← jR.len r3];exact(dM h0).2.2));clear l1 l2 l3 r1 r2 r3 zo wQ zF AT wP Ai;have dF:=qqh ((Below.refl w.heap.size w).alloc (Nat.le_refl _) (.cells #[.int .i64 2,.string name,.slice A n c,.int .i64 3,.bool left.start,.bool left.fin,.slice L1 a1 x1,.slice L2 a2 x2,.slice L3 a3 x3,.int .i64 left.ag,.bool right.start,.bool right.fin,.slice R1 b1 y1,.slice R2 b2 y2,.slice R3 b3 y3,.int .i64 right.ag] 97));have gY:=qqh (ai.new w 97 #[.int .i64 2,.string name,.slice A n c,.int .i64 3,.bool left.start,.bool left.fin,.slice L1 a1 x1,.slice L2 a2 x2,.slice L3 a3 x3,.int .i64 left.ag,.bool right.start,.bool right.fin,.slice R1 b1 y1,.slice R2 b2 y2,.slice R3 b3 y3,.int .i64 right.ag]);go_enter Tryz.func62,Tryz.ntmps62;go_wp2_with fail
 generalize w.alloc (.cells #[.int .i64 2,.string name,.slice A n c,.int .i64 3,.bool left.start,.bool left.fin,.slice L1 a1 x1,.slice L2 a2 x2,.slice L3 a3 x3,.int .i64 left.ag,.bool right.start,.bool right.fin,.slice R1 b1 y1,.slice R2 b2 y2,.slice R3 b3 y3,.int .i64 right.ag] 97)=W0 at *;have c0:W0.cell? ⟨w.heap.size,0,none⟩=some (.int .i64 2):=gY.out.cell 0;have c3:W0.cell? ⟨w.heap.size,3,none⟩=some (.int .i64 3):=gY.out.cell 3;have c4:W0.cell? ⟨w.heap.size,4,none⟩=some (.bool left.start):=gY.out.cell 4;have c5:W0.cell? ⟨w.heap.size,5,none⟩=some (.bool left.fin):=gY.out.cell 5;have c6:W0.cell? ⟨w.heap.size,6,none⟩=some (.slice L1 a1 x1):=gY.out.cell 6;have c7:W0.cell? ⟨w.heap.size,7,none⟩=some (.slice L2 a2 x2):=gY.out.cell 7;have c8:W0.cell? ⟨w.heap.size,8,none⟩=some (.slice L3 a3 x3):=gY.out.cell 8;have c9:W0.cell? ⟨w.heap.size,9,none⟩=some (.int .i64 left.ag):=gY.out.cell 9;have c10:W0.cell? ⟨w.heap.size,10,none⟩=some (.bool right.start):=gY.out.cell 10;have c11:W0.cell? ⟨w.heap.size,11,none⟩=some (.bool right.fin):=gY.out.cell 11;have c12:W0.cell? ⟨w.heap.size,12,none⟩=some (.slice R1 b1 y1):=gY.out.cell 12;have c13:W0.cell? ⟨w.heap.size,13,none⟩=some (.slice R2 b2 y2):=gY.out.cell 13;have c14:W0.cell? ⟨w.heap.size,14,none⟩=some (.slice R3 b3 y3):=gY.out.cell 14;have c15:W0.cell? ⟨w.heap.size,15,none⟩=some (.int .i64 right.ag):=gY.out.cell 15;go_quiet (fail);go_wp2_with fail;refine(SL.out _ (below_drewN dF.out _) true).mono ?_;rintro e w1 ⟨rfl,hb⟩;have qA:=qqh (dF.out.trans (Below.trans (below_drewN (Below.refl _ _) _) (hb.mono (by exact Nat.le_refl _)) |>.mono dF.out.size));have jh:=qqh (ai.below (ai.drewN gY.out _) hb gY.out.lt);clear hb;have d10:w1.cell? ⟨w.heap.size,10,none⟩=some (.bool right.start):=jh.out.cell 10
 have d11:w1.cell? ⟨w.heap.size,11,none⟩=some (.bool right.fin):=jh.out.cell 11;have d12:w1.cell? ⟨w.heap.size,12,none⟩=some (.slice R1 b1 y1):=jh.out.cell 12;have d13:w1.cell? ⟨w.heap.size,13,none⟩=some (.slice R2 b2 y2):=jh.out.cell 13;have d14:w1.cell? ⟨w.heap.size,14,none⟩=some (.slice R3 b3 y3):=jh.out.cell 14;have d15:w1.cell? ⟨w.heap.size,15,none⟩=some (.int .i64 right.ag):=jh.out.cell 15;by_cases e1:bN left true=0
 ·have VB:(bN left true != 0)=false:=(by simp [e1]);go_wp2_with fail;refine(SR.out w1 qA.out true).mono ?_;rintro e w2 ⟨rfl,hb⟩;have iZ:=qqh (ai.below jh.out hb jh.out.lt);have qS:=qqh (qA.out.trans (hb.mono qA.out.size));clear hb;have d10:w2.cell? ⟨w.heap.size,10,none⟩=some (.bool right.start):=iZ.out.cell 10;have d11:w2.cell? ⟨w.heap.size,11,none⟩=some (.bool right.fin):=iZ.out.cell 11;have d12:w2.cell? ⟨w.heap.size,12,none⟩=some (.slice R1 b1 y1):=iZ.out.cell 12;have d13:w2.cell? ⟨w.heap.size,13,none⟩=some (.slice R2 b2 y2):=iZ.out.cell 13;have d14:w2.cell? ⟨w.heap.size,14,none⟩=some (.slice R3 b3 y3):=iZ.out.cell 14;have d15:w2.cell? ⟨w.heap.size,15,none⟩=some (.int .i64 right.ag):=iZ.out.cell 15;by_cases e2:bN right true=0
  ·have T3:(bN right true != 0)=false:=(by simp [e2]);go_wp2_with fail;refine(TR.out w2 qS.out).mono ?_;rintro e w3 ⟨rfl,hb⟩;have i7:=qqh (ai.below iZ.out hb iZ.out.lt);have tC:=qqh (qS.out.trans (hb.mono qS.out.size));clear hb;have d4:w3.cell? ⟨w.heap.size,4,none⟩=some (.bool left.start):=i7.out.cell 4;have d5:w3.cell? ⟨w.heap.size,5,none⟩=some (.bool left.fin):=i7.out.cell 5;have d6:w3.cell? ⟨w.heap.size,6,none⟩=some (.slice L1 a1 x1):=i7.out.cell 6;have d7:w3.cell? ⟨w.heap.size,7,none⟩=some (.slice L2 a2 x2):=i7.out.cell 7;have d8:w3.cell? ⟨w.heap.size,8,none⟩=some (.slice L3 a3 x3):=i7.out.cell 8;have d9:w3.cell? ⟨w.heap.size,9,none⟩=some (.int .i64 left.ag):=i7.out.cell 9;cases hp:gi right.source
   ·have HV:=qqh (show cP 3 left right=8 by simp [cP,tP,e1,e2,hp]);clear e1 e2 hp;go_wp2_with fail;go_ret;rw [HV.out];exact⟨rfl,tC.out⟩
   go_wp2_with fail;refine(TL.out w3 tC.out).mono ?_;rintro e w4 ⟨rfl,hb⟩;have N4:=qqh (ai.below i7.out hb i7.out.lt);have xC:=qqh (tC.out.trans (hb.mono tC.out.size));clear hb;cases hq:gi left.source
   ·have HV:=qqh (show cP 3 left right=8 by simp [cP,tP,e1,e2,hp,hq]);clear e1 e2 hp hq;go_wp2_with fail;go_ret;rw [HV.out];exact⟨rfl,xC.out⟩
   have HV:=qqh (show cP 3 left right=0 by simp [cP,tP,e1,e2,hp,hq]);clear e1 e2 hp hq;go_wp2_with fail;go_ret;rw [HV.out];exact⟨rfl,xC.out⟩
  have T3:(bN right true != 0)=true:=(by simpa using e2);have HV:=qqh (show cP 3 left right=bN right true by simp [cP,e1,e2]);clear e1 e2;go_wp2_with fail;go_ret;rw [HV.out];exact⟨rfl,qS.out⟩
 have VB:(bN left true != 0)=true:=(by simpa using e1);have HV:=qqh (show cP 3 left right=bN left true by simp [cP,e1]);clear e1;go_wp2_with fail;go_ret;rw [HV.out];exact⟨rfl,qA.out⟩
theorem KW (name:ByteArray) (left right:bQ) (dir:Int) (A:Option Addr) (n c:Nat) (L1 L2 L3 R1 R2 R3:Option Addr) (a1 a2 a3 x1 x2 x3 b1 b2 b3 y1 y2 y3:Nat) (w:World) (h:dir<1∨3<dir) :
    Calls Tryz.prog 62 #[.agg #[.int .i64 2,.string name,.slice A n c,.int .i64 dir,.bool left.start,.bool left.fin,.slice L1 a1 x1,.slice L2 a2 x2,.slice L3 a3 x3,.int .i64 left.ag,.bool right.start,.bool right.fin,.slice R1 b1 y1,.slice R2 b2 y2,.slice R3 b3 y3,.int .i64 right.ag]] w fun e w'=>e=.returned (.int .i64 1)∧Below w.heap.size w w':=by
 have HB:=qqh ((Below.refl w.heap.size w).alloc (Nat.le_refl _) (.cells #[.int .i64 2,.string name,.slice A n c,.int .i64 dir,.bool left.start,.bool left.fin,.slice L1 a1 x1,.slice L2 a2 x2,.slice L3 a3 x3,.int .i64 left.ag,.bool right.start,.bool right.fin,.slice R1 b1 y1,.slice R2 b2 y2,.slice R3 b3 y3,.int .i64 right.ag] 97));rcases h with h | h
 all_goals
   go_enter Tryz.func62,Tryz.ntmps62
   go_wp2_with fail
   go_ret
   exact⟨rfl,HB.out⟩
end Go.Proofs.YthgkedoildcbcaaGreatDoor
