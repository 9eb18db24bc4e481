/- OpenSpans + Parts + Item + Items + Side + SideMore + Told + SideWalk + PartP + PartRule -/
import Derived.Test.YtkggjgeihhialaaGreatDoorZu4
import Derived.Test.YtkggjgeihhialaaGreatDoorZu8
import Derived.Test.YtkggjgeihhialaaGreatDoorZu3
import Derived.Test.YtkggjgeihhialaaGreatDoorZu6
import Derived.Deep.QuietTactic
import Derived.BigQuiet
set_option maxHeartbeats 3200000
set_option maxRecDepth 100000
namespace Go.Proofs.YtkggjgeihhialaaGreatDoor
open Go.RowKit Go.ChangeShapes Go.WideShapes Go.ChangeAt
section
variable {H : Type} {enc : TypeId × Value → H} {w : World}
theorem I7 {m:Nat} {cs:List Value} {y:DataW H × List MemPlace} (h:DataW.trod enc Tryz.prog w 0 (fun _=>true) true m 82 cs=some y):∃ z:Int × Int,cs = [.int .i32 z.1,.int .i32 z.2]:=by
 have c1 : Tryz.prog.cellsOf 21 = 1:=(by kernel_rfl);have c2 : Tryz.prog.cellsOf 82 = 2:=(by kernel_rfl);obtain⟨y0,y1,n,_,hl,h0,h1⟩:=trod_struct2 Tryz.underlying82 h;dsimp only at h0 h1;rw [c1]at h0 h1;rw [c2]at hl;obtain⟨a,e0,_,_⟩:=DataW.trod_int Tryz.underlying21 h0;obtain⟨b,e1,_,_⟩:=DataW.trod_int Tryz.underlying21 h1;match cs,hl with
 | [u,v],_=>
  simp at e0 e1;exact⟨(a,b),by rw [e0,e1]⟩
theorem Fb {fuel n c:Nat} {A:Option Addr} {x:DataW H × List MemPlace} (h:DataW.trod enc Tryz.prog w 0 (fun _=>true) true fuel 24 [.slice A n c] = some x) :
    n≤c∧c≤maxLen∧(∃ l,jz w w.heap.size A n l)∧((x.1=.nil∧c=0)∨∃ elems spare,x.1=.slice elems spare∧elems.length+spare.length=c):=by
 obtain⟨h1,h2,l,css,hl,hc,hR,_,hrd,hx⟩:=Jj Tryz.underlying24 (sz:=2) (by kernel_rfl) (by decide) h (fun(z:Int × Int) cs=>cs = [.int .i32 z.1,.int .i32 z.2]) (fun m cs y hy=>I7 hy);rw [BV (fun z:Int × Int=>[.int .i32 z.1,.int .i32 z.2]) l css (by omega) hR]at hrd;exact⟨h1,h2,⟨l,hrd⟩,hx⟩
end
end Go.Proofs.YtkggjgeihhialaaGreatDoor
namespace Go.Proofs.YtkggjgeihhialaaGreatDoor
open Go.RowKit Go.ChangeShapes Go.WideShapes Go.ChangeAt
def j7 {α:Type} (R:α→List Value→Prop) (w:World) (B sz:Nat) (A:Option Addr) (n:Nat) (l:List α):Prop :=
  ∃ css:List (List Value),l.length=n∧css.length=n∧(∀ (i:Nat) (a:α) (cs:List Value),l[i]? = some a→css[i]? = some cs→R a cs)∧(∀ cs∈css,cs.length=sz)∧Rd w B sz A n css.flatten
theorem j7.len {α:Type} {R:α→List Value→Prop} {w:World} {B sz n:Nat} {A:Option Addr} {l:List α} (h:j7 R w B sz A n l):l.length=n:=by
 obtain⟨_,h1,_⟩:=h;exact h1
theorem j7.at {α:Type} {R:α→List Value→Prop} {w:World} {B sz n:Nat} {A:Option Addr} {l:List α} (h:j7 R w B sz A n l) {k:Nat} {a:α} (hk:l[k]? = some a) :
    ∃ (b off:Nat) (cs:List Value),A=some ⟨b,off,none⟩∧b<B∧R a cs∧∀ j u,cs[j]? = some u→w.cell? ⟨b,off+k*sz+j,none⟩=some u:=by
 obtain⟨css,h1,h2,h3,h4,h5,h6⟩:=h;have hlt:k<l.length:=(List.getElem?_eq_some_iff.1 hk).1;obtain⟨b,off,e,hb,hc⟩:=h6 (by omega);obtain⟨cs,hcs⟩:∃ cs,css[k]? = some cs:=⟨_,List.getElem?_eq_getElem (by omega)⟩;refine⟨b,off,cs,e,hb,h3 k a cs hk hcs,fun j u hu=>?_⟩;rw [Nat.add_assoc];exact hc _ _ (dZ h4 k cs hcs j u hu)
theorem j7.weak {α:Type} {R R':α→List Value→Prop} {w w':World} {B B' sz n:Nat} {A:Option Addr} {l:List α} (h:j7 R w B sz A n l) (hR:∀ a cs,R a cs→R' a cs) (hw:∀ xs,Rd w B sz A n xs→Rd w' B' sz A n xs):j7 R' w' B' sz A n l:=by
 obtain⟨css,h1,h2,h3,h4,h5⟩:=h;exact⟨css,h1,h2,fun i a cs ha hc=>hR a cs (h3 i a cs ha hc),h4,hw _ h5⟩
structure aG where
  kind:Int
  rune:Int
  set:af
  name:ByteArray
structure bW where
  start:Bool
  fin:Bool
  before:List aG
  source:List aG
  after:List aG
  ag:Int
structure aH where
  kind:Int
  name:ByteArray
  set:af
  dir:Int
  left:bW
  right:bW
def kG (n:Int):Prop:=-9223372036854775808≤n∧n≤9223372036854775807
def y8 (w:World) (B:Nat) (a:aG) (cs:List Value):Prop :=
  ∃ A n c,cs = [.int .i64 a.kind,.int .i32 a.rune,.slice A n c,.string a.name]∧jz w B A n a.set∧n≤maxLen∧kG a.kind∧a.name.size≤maxLen
def bT (w:World) (B:Nat) (A:Option Addr) (n:Nat) (l:List aG):Prop:=j7 (y8 w B) w B 4 A n l
def tB (w:World) (B:Nat) (s:bW) (cs:List Value):Prop :=
  ∃ A1 n1 c1 A2 n2 c2 A3 n3 c3,cs = [.bool s.start,.bool s.fin,.slice A1 n1 c1,.slice A2 n2 c2,.slice A3 n3 c3,.int .i64 s.ag] ∧
    bT w B A1 n1 s.before∧bT w B A2 n2 s.source∧bT w B A3 n3 s.after∧n1≤maxLen∧n2≤maxLen∧n3≤maxLen∧kG s.ag
def zH (w:World) (B:Nat) (p:aH) (cs:List Value):Prop :=
  ∃ A n c ls rs,cs = [.int .i64 p.kind,.string p.name,.slice A n c,.int .i64 p.dir]++ls++rs∧jz w B A n p.set∧n≤maxLen∧tB w B p.left ls∧tB w B p.right rs∧kG p.kind∧kG p.dir∧p.name.size≤maxLen
def BM (w:World) (B:Nat) (A:Option Addr) (n:Nat) (l:List aH):Prop:=j7 (zH w B) w B 16 A n l
section
variable {w w' : World} {B B' : Nat}
theorem y8.weak {a:aG} {cs:List Value} (hw:∀ A sz n xs,Rd w B sz A n xs→Rd w' B' sz A n xs) (h:y8 w B a cs):y8 w' B' a cs:=by
 obtain⟨A,n,c,e,h1,h2⟩:=h;exact⟨A,n,c,e,hw _ _ _ _ h1,h2⟩
theorem bT.weak {A:Option Addr} {n:Nat} {l:List aG} (hw:∀ A sz n xs,Rd w B sz A n xs→Rd w' B' sz A n xs) (h:bT w B A n l):bT w' B' A n l :=
  j7.weak h (fun _ _=>y8.weak hw) (hw _ _ _)
theorem tB.weak {s:bW} {cs:List Value} (hw:∀ A sz n xs,Rd w B sz A n xs→Rd w' B' sz A n xs) (h:tB w B s cs):tB w' B' s cs:=by
 obtain⟨A1,n1,c1,A2,n2,c2,A3,n3,c3,e,h1,h2,h3,h4⟩:=h;exact⟨A1,n1,c1,A2,n2,c2,A3,n3,c3,e,bT.weak hw h1,bT.weak hw h2,bT.weak hw h3,h4⟩
theorem zH.weak {p:aH} {cs:List Value} (hw:∀ A sz n xs,Rd w B sz A n xs→Rd w' B' sz A n xs) (h:zH w B p cs):zH w' B' p cs:=by
 obtain⟨A,n,c,ls,rs,e,h1,h2,h3,h4,h5⟩:=h;exact⟨A,n,c,ls,rs,e,hw _ _ _ _ h1,h2,tB.weak hw h3,tB.weak hw h4,h5⟩
theorem BM.weak {A:Option Addr} {n:Nat} {l:List aH} (hw:∀ A sz n xs,Rd w B sz A n xs→Rd w' B' sz A n xs) (h:BM w B A n l):BM w' B' A n l :=
  j7.weak h (fun _ _=>zH.weak hw) (hw _ _ _)
theorem eW (hb:Below B w w') (hB:B≤B'):∀ A sz n xs,Rd w B sz A n xs→Rd w' B' sz A n xs:=fun _ _ _ _ h=>Rd.more (Rd.below h hb) hB
end
end Go.Proofs.YtkggjgeihhialaaGreatDoor
namespace Go.Proofs.YtkggjgeihhialaaGreatDoor
open Go.RowKit
def nD (a:aG):Int :=
  if a.kind=1 then (if b7 a.rune=true then 0 else 3)else if a.kind=2 then bC a.set else if a.kind=3 then (if ek a.name=true then 0 else 7)else 1
def MN (a:aG) (A:Option Addr) (n c:Nat):Value:=.agg #[.int .i64 a.kind,.int .i32 a.rune,.slice A n c,.string a.name]
theorem sI {w:World} {A:Option Addr} {n:Nat} {l:af} (h:jz w w.heap.size A n l) (o:Obj):jz (w.alloc o) (w.alloc o).heap.size A n l :=
  eW ((Below.refl _ _).alloc (Nat.le_refl _) o) (by simp) _ _ _ _ h
theorem Bg (a:aG) (A:Option Addr) (n c:Nat) (w:World) (hn:n≤9223372036854775807) (hs:jz w w.heap.size A n a.set) :
    Calls Tryz.prog 119 #[MN a A n c] w fun e w'=>e=.returned (.int .i64 (nD a))∧Below w.heap.size w w':=by
 obtain⟨kind,rune,set,name⟩:=a;have hbA:∀ o,Below w.heap.size w (w.alloc o):=fun o=>(Below.refl _ _).alloc (Nat.le_refl _) o;have HS:=qqh (sI hs);have HB:=qqh hbA;clear hs hbA;unfold MN nD;dsimp only;by_cases h1:kind=1
 ·subst h1;rw [if_pos rfl];cases hr:b7 rune
  all_goals
    go_enter Tryz.func119,Tryz.ntmps119
    go_wp2_with (go_at_call 50;refine(gw _ _).mono ?_;rintro e w' ⟨rfl,rfl⟩;rw [hr])
    go_ret
    exact⟨rfl,HB.out _⟩
 by_cases h2:kind=2
 ·subst h2;rw [if_neg h1,if_pos rfl];go_enter Tryz.func119,Tryz.ntmps119;go_wp2_with fail;refine(hJ A n c set _ hn (HS.out _)).mono ?_;rintro e w' ⟨rfl,hb⟩;go_wp2_with fail;go_ret;exact⟨rfl,(HB.out _).trans (hb.mono (by simp))⟩
 have e1:(kind == 1)=false:=(by simpa using h1);have e2:(kind == 2)=false:=(by simpa using h2);by_cases h3:kind=3
 ·subst h3;rw [if_neg h1,if_neg h2,if_pos rfl];cases hr:ek name
  all_goals
    go_enter Tryz.func119,Tryz.ntmps119
    go_wp2_with (go_at_call 100;refine(i7 _ _).mono ?_;rintro e w' ⟨rfl,rfl⟩;rw [hr])
    go_ret
    exact⟨rfl,HB.out _⟩
 have e3:(kind == 3)=false:=(by simpa using h3);rw [if_neg h1,if_neg h2,if_neg h3];clear h1 h2 h3;go_enter Tryz.func119,Tryz.ntmps119;go_wp2_with fail;go_ret;exact⟨rfl,HB.out _⟩
end Go.Proofs.YtkggjgeihhialaaGreatDoor
namespace Go.Proofs.YtkggjgeihhialaaGreatDoor
open Go.RowKit
def lA:List aG→Int
  | []=>0
  | a::r=>if nD a=0 then lA r else nD a
def cz (l:List aG):Int:=if 20<l.length then 5 else lA l
theorem uE {w:World} {B n:Nat} {A:Option Addr} {l:List aG} (h:bT w B A n l) {k:Nat} {a:aG} (hk:l[k]? = some a) :
    ∃ (b off:Nat) (A':Option Addr) (n' c':Nat),A=some ⟨b,off,none⟩∧b<B∧w.cell? ⟨b,off+k*4,none⟩=some (.int .i64 a.kind)∧w.cell? ⟨b,off+k*4+1,none⟩=some (.int .i32 a.rune) ∧
      w.cell? ⟨b,off+k*4+2,none⟩=some (.slice A' n' c')∧w.cell? ⟨b,off+k*4+3,none⟩=some (.string a.name)∧jz w B A' n' a.set∧n'≤maxLen∧kG a.kind∧a.name.size≤maxLen:=by
 obtain⟨b,off,cs,e,hb,⟨A',n',c',hcs,h1,h2,h3,h4⟩,hc⟩:=j7.at h hk;subst hcs;exact⟨b,off,A',n',c',e,hb,hc 0 _ rfl,hc 1 _ rfl,hc 2 _ rfl,hc 3 _ rfl,h1,h2,h3,h4⟩
def Vq (W:World) (l:List aG) (n:Nat) (i:Value) (wr:World):Prop :=
  ∃ k:Nat,k≤n∧i=.int .i64 k∧lA l=lA (l.drop k)∧Below W.heap.size W wr
end Go.Proofs.YtkggjgeihhialaaGreatDoor
namespace Go.Proofs.YtkggjgeihhialaaGreatDoor
open Go.RowKit
def fe:List (List aG)→Int
  | []=>0
  | l::r=>if cz l=0 then fe r else cz l
def bR (s:bW) (fH:Bool):Int :=
  if fe [s.before,s.source,s.after] = 0 then
    (if s.ag < -1∨(s.source.length:Int)<s.ag then 3 else if fH=true∧s.source.length=0 then 6 else 0)
  else fe [s.before,s.source,s.after]
def gl (l:List aG):Bool:=l.all fun a=>a.kind == 1
def mB (s:bW):Bool:=s.start || s.fin || decide (0<s.before.length) || decide (0<s.after.length)
theorem lg {l:List aG} (h:cz l=0):l.length≤20:=by
 unfold cz at h;by_cases h1:20<l.length
 ·rw [if_pos h1]at h;cases h
 omega
theorem ER {w:World} {A:Option Addr} {n:Nat} {l:List aG} (h:bT w w.heap.size A n l) (o:Obj):bT (w.alloc o) (w.alloc o).heap.size A n l :=
  bT.weak (eW ((Below.refl _ _).alloc (Nat.le_refl _) o) (by simp)) h
theorem aO {w w':World} {A:Option Addr} {n:Nat} {l:List aG} (h:bT w w.heap.size A n l) (hb:Below w.heap.size w w'):bT w' w'.heap.size A n l :=
  bT.weak (eW hb hb.size) h
end Go.Proofs.YtkggjgeihhialaaGreatDoor
namespace Go.Proofs.YtkggjgeihhialaaGreatDoor
open Go.RowKit
theorem Gd (a:aG) (l:List aG):gl (a::l)=((a.kind == 1) && gl l):=rfl
def Xr (W:World) (l:List aG) (n:Nat) (i:Value) (wr:World):Prop :=
  ∃ k:Nat,k≤n∧i=.int .i64 k∧gl l=gl (l.drop k)∧Below W.heap.size W wr
theorem gB (s:bW) (A1 A2 A3:Option Addr) (n1 n2 n3 c1 c2 c3:Nat) (w:World) (h1:s.before.length=n1) (h3:s.after.length=n3) (m1:n1≤20) (m3:n3≤20) :
    Calls Tryz.prog 104 #[.agg #[.bool s.start,.bool s.fin,.slice A1 n1 c1,.slice A2 n2 c2,.slice A3 n3 c3,.int .i64 s.ag]] w fun e w'=>e=.returned (.bool (!mB s))∧Below w.heap.size w w':=by
 have hv:mB s=(s.start || s.fin || decide (0<n1) || decide (0<n3)):=(by unfold mB;rw [h1,h3]);rw [hv];clear hv h1 h3;obtain⟨start,fin,before,l,after,ag⟩:=s;dsimp only;cases start <;> cases fin
 ·go_enter Tryz.func104,Tryz.ntmps104;go_wp2_with fail;go_ret;exact⟨aW (by rw [Bool.eq_iff_iff];simp;omega),(Below.refl _ _).alloc (Nat.le_refl _) _⟩
 all_goals
   go_enter Tryz.func104,Tryz.ntmps104
   go_wp2_with fail
   go_ret
   exact⟨aW (by simp),(Below.refl _ _).alloc (Nat.le_refl _) _⟩
theorem Lp (a:aG) (A:Option Addr) (n c:Nat) (w:World) :
    Calls Tryz.prog 121 #[.agg #[.int .i64 a.kind,.int .i32 a.rune,.slice A n c,.string a.name]] w fun e w'=>e=.returned (.bool (a.kind != 1))∧Below w.heap.size w w':=by
 go_enter Tryz.func121,Tryz.ntmps121;go_wp2_with fail;go_ret;exact⟨rfl,(Below.refl _ _).alloc (Nat.le_refl _) _⟩
end Go.Proofs.YtkggjgeihhialaaGreatDoor
namespace Go.Proofs.YtkggjgeihhialaaGreatDoor
open Go.RowKit
theorem E2 (A:Option Addr) (n c:Nat) (l:List aG) (fv:Value) (YP:fv=.func (.func 121) #[] #[]) (w:World) (hl:bT w w.heap.size A n l) (m:n≤maxLen) :
    Calls Tryz.prog 136 #[.slice A n c,fv] w fun e w'=>(∃ z:Int,e=.returned (.int .i64 z)∧(decide (0≤z) = !gl l))∧Below w.heap.size w w':=by
 subst YP;have aQ:=qqh (j7.len hl);have HL:=qqh hl;have hn2:n≤9223372036854775807:=(by unfold maxLen at m;omega);clear hl m;go_enter Tryz.func136,Tryz.ntmps136;go_wp2_with fail;go_loopw [8] (Xr w l n) (fun i _=>n - (intOf i).toNat);(case atStart=>exact⟨0,Nat.zero_le _,rfl,rfl,Below.refl _ _⟩);obtain⟨k,hk,rfl,aV,hb⟩:=hrel;have hz:=hb.size;by_cases hlt:k<n
 ·obtain⟨a,ha⟩:∃ z,l[k]? = some z:=⟨_,List.getElem?_eq_getElem (by rw [aQ.out];exact hlt)⟩;rw [cW ha,Gd]at aV;obtain⟨b,off,A',n',c',rfl,cH,c0,TE,NG,c3',_,_,_,_⟩:=uE HL.out ha;have d0:=(hb.cell (p:=⟨b,off+k*4,none⟩) cH).trans c0;have d1:=(hb.cell (p:=⟨b,off+k*4+1,none⟩) cH).trans TE;have d2:=(hb.cell (p:=⟨b,off+k*4+2,none⟩) cH).trans NG;have d3:=(hb.cell (p:=⟨b,off+k*4+3,none⟩) cH).trans c3';have HT:=qqh (Lp a A' n' c' wr);clear c0 TE NG c3';by_cases hk1:a.kind=1
  ·have HG:=qqh (aV.trans (show(a.kind == 1 && gl (l.drop (k+1)))=gl (l.drop (k+1)) by simp [hk1]));have hk2:(a.kind != 1)=false:=(by simpa using hk1);clear aV hk1;go_wp2_with fail;refine HT.out.mono ?_;rintro e w2 ⟨rfl,aU⟩;have bL:=hb.trans (aU.mono hz);rw [hk2];clear aU;go_wp2_with fail;exact⟨⟨k+1,by omega,by go_num,HG.out,bL⟩,by simp [intOf];omega⟩
  have HG:=qqh (aV.trans (show(a.kind == 1 && gl (l.drop (k+1)))=false by simp [hk1]));have hk2:(a.kind != 1)=true:=(by simpa using hk1);clear aV hk1;go_wp2_with fail;refine HT.out.mono ?_;rintro e w2 ⟨rfl,aU⟩;have bL:=hb.trans (aU.mono hz);rw [hk2];clear aU;go_wp2_with fail;go_ret;exact⟨⟨_,rfl,by rw [HG.out];simp⟩,bL⟩
 obtain rfl:k=n:=(by omega);rw [List.drop_of_length_le (by rw [aQ.out];omega)]at aV;have HG:=qqh (aV.trans (show gl [] = true from rfl));clear aV;go_wp2_with fail;go_ret;exact⟨⟨_,rfl,by rw [HG.out];simp⟩,hb⟩
theorem Lg (A:Option Addr) (n c:Nat) (l:List aG) (fv:Value) (YP:fv=.func (.func 121) #[] #[]) (w:World) (hl:bT w w.heap.size A n l) (m:n≤maxLen) :
    Calls Tryz.prog 120 #[.slice A n c,fv] w fun e w'=>e=.returned (.bool (!gl l))∧Below w.heap.size w w':=by
 have H:=qqh (E2 A n c l fv YP w hl m);clear hl m YP;go_enter Tryz.func120,Tryz.ntmps120;go_wp2_with fail;refine H.out.mono ?_;rintro e w2 ⟨⟨z,rfl,hz⟩,hb⟩;have HZ:=qqh hz;clear hz;go_wp2_with fail;go_ret;exact⟨aW HZ.out,hb⟩
theorem gC (s:bW) (A1 A2 A3:Option Addr) (n1 n2 n3 c1 c2 c3:Nat) (w:World) (h2:bT w w.heap.size A2 n2 s.source) (m2:n2≤maxLen) :
    Calls Tryz.prog 103 #[.agg #[.bool s.start,.bool s.fin,.slice A1 n1 c1,.slice A2 n2 c2,.slice A3 n3 c3,.int .i64 s.ag]] w fun e w'=>e=.returned (.bool (gl s.source))∧Below w.heap.size w w':=by
 obtain⟨start,fin,before,l,after,ag⟩:=s;dsimp only at h2 ⊢;have H:=qqh (fun o=>Lg A2 n2 c2 l _ rfl (w.alloc o) (ER h2 o) m2);have HB:=qqh (fun o=>(Below.refl w.heap.size w).alloc (Nat.le_refl _) o);clear h2 m2;go_enter Tryz.func103,Tryz.ntmps103;go_wp2_with fail;refine(H.out _).mono ?_;rintro e w2 ⟨rfl,hb⟩;have aU:=(HB.out _).trans (hb.mono (by simp));clear hb;go_wp2_with fail;go_ret;exact⟨aW (by simp),aU⟩
end Go.Proofs.YtkggjgeihhialaaGreatDoor
namespace Go.Proofs.YtkggjgeihhialaaGreatDoor
open Go.RowKit
def Uo (W:World) (s:bW) (i:Value) (wr:World):Prop :=
  ∃ j:Nat,j≤3∧i=.int .i64 j∧fe [s.before,s.source,s.after] = fe ([s.before,s.source,s.after].drop j)∧Below W.heap.size W wr
theorem all_cons (l:List aG) (r:List (List aG)):fe (l::r)=if cz l=0 then fe r else cz l:=rfl
theorem I3 (s:bW) (W:World) (A1 A2 A3:Option Addr) (n1 n2 n3 c1 c2 c3:Nat) (h1:bT W W.heap.size A1 n1 s.before) (h2:bT W W.heap.size A2 n2 s.source) (h3:bT W W.heap.size A3 n3 s.after) (m1:n1≤maxLen) (m2:n2≤maxLen) (m3:n3≤maxLen) (j:Nat) (hj:j<3) :
    ∃ (A:Option Addr) (n c:Nat) (l:List aG),(#[.slice A1 n1 c1,.slice A2 n2 c2,.slice A3 n3 c3]:Array Value)[j]? = some (.slice A n c)∧bT W W.heap.size A n l∧n≤maxLen ∧ [s.before,s.source,s.after].drop j=l::[s.before,s.source,s.after].drop (j+1):=by
 match j,hj with
 | 0,_=>exact⟨A1,n1,c1,s.before,rfl,h1,m1,rfl⟩
 | 1,_=>exact⟨A2,n2,c2,s.source,rfl,h2,m2,rfl⟩
 | 2,_=>exact⟨A3,n3,c3,s.after,rfl,h3,m3,rfl⟩
theorem gE (s:bW) (fH:Bool) (A1 A2 A3:Option Addr) (n1 n2 n3 c1 c2 c3:Nat) (w:World) (h1:bT w w.heap.size A1 n1 s.before) (h2:bT w w.heap.size A2 n2 s.source) (h3:bT w w.heap.size A3 n3 s.after) (m1:n1≤maxLen) (m2:n2≤maxLen) (m3:n3≤maxLen) :
    Calls Tryz.prog 102 #[.agg #[.bool s.start,.bool s.fin,.slice A1 n1 c1,.slice A2 n2 c2,.slice A3 n3 c3,.int .i64 s.ag],.bool fH] w fun e w'=>e=.returned (.int .i64 (bR s fH))∧Below w.heap.size w w':=by
 have iw:=j7.len h2;generalize hcs:(#[.bool s.start,.bool s.fin,.slice A1 n1 c1,.slice A2 n2 c2,.slice A3 n3 c3,.int .i64 s.ag]:Array Value)=cs;have aR:Below w.heap.size w (w.alloc (.cells cs 101)):=(Below.refl _ _).alloc (Nat.le_refl _) _;have aU:Below w.heap.size w ((w.alloc (.cells cs 101)).alloc (.cells #[.slice A1 n1 c1,.slice A2 n2 c2,.slice A3 n3 c3] 99)):=aR.alloc aR.size _;have hk1:aj ((w.alloc (.cells cs 101)).alloc (.cells #[.slice A1 n1 c1,.slice A2 n2 c2,.slice A3 n3 c3] 99)) w.heap.size 101 cs:=(aj.new _ _ _).alloc _;have hk2:aj ((w.alloc (.cells cs 101)).alloc (.cells #[.slice A1 n1 c1,.slice A2 n2 c2,.slice A3 n3 c3] 99)) (w.heap.size+1) 99 #[.slice A1 n1 c1,.slice A2 n2 c2,.slice A3 n3 c3]:=by
  have:=aj.new (w.alloc (.cells cs 101)) 99 #[.slice A1 n1 c1,.slice A2 n2 c2,.slice A3 n3 c3];simpa using this
 have gS:=qqh (I3 s _ A1 A2 A3 n1 n2 n3 c1 c2 c3 (aO h1 aU) (aO h2 aU) (aO h3 aU) m1 m2 m3);have hm2:n2≤9223372036854775807:=(by unfold maxLen at m2;omega);have HB:=qqh aU;have NO:=qqh hk1;have Nw:=qqh hk2;clear h1 h2 h3 m1 m2 m3 aR aU hk1 hk2;subst hcs;go_enter Tryz.func102,Tryz.ntmps102;go_wp2_with fail;generalize hW:((w.alloc (.cells #[.bool s.start,.bool s.fin,.slice A1 n1 c1,.slice A2 n2 c2,.slice A3 n3 c3,.int .i64 s.ag] 101)).alloc (.cells #[.slice A1 n1 c1,.slice A2 n2 c2,.slice A3 n3 c3] 99))=W at *;clear hW;go_loopw [18] (Uo W s) (fun i _=>3 - (intOf i).toNat);(case atStart=>exact⟨0,by omega,rfl,rfl,Below.refl _ _⟩);obtain⟨j,hj,rfl,hall,hb⟩:=hrel;have hz:=hb.size;by_cases hj3:j<3
 ·obtain⟨A,n,c,l,hc,hl,hm,hd⟩:=gS.out j hj3;rw [hd,all_cons l]at hall;have dj:wr.cell? ⟨w.heap.size+1,j,none⟩=some (.slice A n c):=by
   rw [(aj.below Nw.out hb Nw.out.lt).cell j];exact hc
  have ht:decide ((j:Int)<3)=true:=decide_eq_true (by omega);have aQ:=qqh (j7.len hl);have HL:=qqh hl;have hn:n≤9223372036854775807:=(by unfold maxLen at hm;omega);clear hl hc hd hm;by_cases h20:20<n
  ·have YF:cz l=5:=(by unfold cz;rw [if_pos (by rw [aQ.out];exact h20)]);rw [if_neg (by rw [YF];decide),YF]at hall;have HV:=qqh (show bR s fH=5 by unfold bR;rw [hall];rfl);clear hall YF;go_wp2_with fail;go_ret;rw [HV.out];exact⟨rfl,HB.out.trans (hb.mono HB.out.size)⟩
  have hlg:cz l=lA l:=(by unfold cz;rw [if_neg (by rw [aQ.out];exact h20)]);rw [hlg]at hall;have HA:=qqh hall;clear hall hlg;go_wp2_with fail;go_loopw [27] (Vq W l n) (fun i _=>n - (intOf i).toNat);(case atStart=>exact⟨0,Nat.zero_le _,rfl,rfl,hb⟩);clear hb hz;obtain⟨k,hk,rfl,aV,hb⟩:=hrel;have hz:=hb.size;by_cases hlt:k<n
  ·obtain⟨a,ha⟩:∃ z,l[k]? = some z:=⟨_,List.getElem?_eq_getElem (by rw [aQ.out];exact hlt)⟩;rw [cW ha,lA]at aV;obtain⟨b,off,A',n',c',rfl,cH,d0,d1,d2,d3,yz,hn',_,hnm⟩:=uE HL.out ha;have d0:=(hb.cell (p:=⟨b,off+k*4,none⟩) cH).trans d0;have d1:=(hb.cell (p:=⟨b,off+k*4+1,none⟩) cH).trans d1;have d2:=(hb.cell (p:=⟨b,off+k*4+2,none⟩) cH).trans d2;have d3:=(hb.cell (p:=⟨b,off+k*4+3,none⟩) cH).trans d3;have aR:=fun o=>hb.alloc hz o;have HI:=qqh (fun o=>Bg a A' n' c' (World.alloc _ o) (by unfold maxLen at hn';omega) (Rd.more (Rd.below yz (aR o)) (by simp;omega)));have bJ:=qqh aR;clear yz aR hnm hn';unfold MN at HI;by_cases hi:nD a=0
   ·rw [if_pos hi]at aV;have HG:=qqh aV;clear aV;go_wp2_with fail;refine(HI.out _).mono ?_;rintro e w2 ⟨rfl,aU⟩;rw [hi];have bL:=(bJ.out _).trans (aU.mono (by simp;omega));have bG:=qqh bL;clear aU bL;go_wp2_with fail;exact⟨⟨k+1,by omega,by go_num,HG.out,bG.out⟩,by simp [intOf];omega⟩
   rw [if_neg hi]at aV;have hi2:(nD a != 0)=true:=(by simpa using hi);have PX:=HA.out;rw [aV,if_neg hi]at PX;have HV:=qqh (show bR s fH=nD a by unfold bR;rw [PX,if_neg hi]);clear aV hi PX;go_wp2_with fail;refine(HI.out _).mono ?_;rintro e w2 ⟨rfl,aU⟩;have bL:=(bJ.out _).trans (aU.mono (by simp;omega));have bG:=qqh bL;clear aU bL;go_wp2_with fail;go_ret;rw [HV.out];exact⟨rfl,HB.out.trans (bG.out.mono HB.out.size)⟩
  obtain rfl:k=n:=(by omega);rw [List.drop_of_length_le (by rw [aQ.out];omega)]at aV;have PX:=HA.out;rw [aV,if_pos (show lA [] = 0 from rfl)]at PX;have HG:=qqh PX;clear aV PX;go_wp2_with fail;exact⟨⟨j+1,by omega,by go_num,HG.out,hb⟩,by simp [intOf];omega⟩
 obtain rfl:j=3:=(by omega);have ha0:fe [s.before,s.source,s.after] = 0:=hall;have iM:=aj.below NO.out hb NO.out.lt;have d3:wr.cell? ⟨w.heap.size,3,none⟩=some (.slice A2 n2 c2):=iM.cell 3;have d5:wr.cell? ⟨w.heap.size,5,none⟩=some (.int .i64 s.ag):=iM.cell 5;have hb0:=HB.out.trans (hb.mono HB.out.size);have HS:=qqh (show bR s fH=if s.ag < -1∨(n2:Int)<s.ag then 3 else if fH=true∧n2=0 then 6 else 0 by unfold bR;rw [if_pos ha0,iw]);clear hall ha0 iM iw;have dY:=qqh hb0;clear hb0;by_cases hc:s.ag < -1∨(n2:Int)<s.ag
 ·have HV:=qqh (show bR s fH=3 by rw [HS.out,if_pos hc]);rcases (show s.ag < -1∨(-1≤s.ag∧(n2:Int)<s.ag) by omega)with h | ⟨h,h'⟩
  all_goals
    clear hc
    go_wp2_with fail
    go_ret
    rw [HV.out]
    exact⟨rfl,dY.out⟩
 have hc1 : -1≤s.ag:=(by omega);have hc2:s.ag≤n2:=(by omega);cases hmust:fH
 ·have HV:=qqh (show bR s false=0 by rw [← hmust,HS.out,if_neg hc,hmust];simp);subst hmust;clear hc;go_wp2_with fail;go_ret;rw [HV.out];exact⟨rfl,dY.out⟩
 subst hmust;by_cases h0:n2=0
 ·have HV:=qqh (show bR s true=6 by rw [HS.out,if_neg hc,h0];simp);have rM:((n2:Int) == 0)=true:=(by simp;omega);clear hc;go_wp2_with fail;go_ret;rw [HV.out];exact⟨rfl,dY.out⟩
 have HV:=qqh (show bR s true=0 by rw [HS.out,if_neg hc];simp [h0]);have rM:((n2:Int) == 0)=false:=(by simp;omega);clear hc;go_wp2_with fail;go_ret;rw [HV.out];exact⟨rfl,dY.out⟩
end Go.Proofs.YtkggjgeihhialaaGreatDoor
namespace Go.Proofs.YtkggjgeihhialaaGreatDoor
open Go.RowKit
def ug (dir:Int) (left right:bW):Bool :=
  (dir == 2 || gl right.source) && (dir == 1 || gl left.source) && (dir != 1 || (!mB right && decide (left.ag<0))) && (dir != 2 || (!mB left && decide (right.ag<0)))
def cZ (dir:Int) (left right:bW):Int :=
  if dir<1∨3<dir then 1
  else if bR left (dir != 2)=0 then (if bR right (dir != 1)=0 then (if ug dir left right=true then 0 else 8)else bR right (dir != 1))
  else bR left (dir != 2)
def fN (p:aH):Int :=
  if p.kind=1 then (if ek p.name=true then bC p.set else 7)
  else if p.kind=3 then bC p.set
  else if p.kind=4 then (if jL p.name=true then 0 else 7)
  else if p.kind=2 then cZ p.dir p.left p.right
  else 1
theorem He {s:bW} (h:fe [s.before,s.source,s.after] = 0):s.before.length≤20∧s.source.length≤20∧s.after.length≤20:=by
 simp only [fe]at h;by_cases h1:cz s.before=0
 ·rw [if_pos h1]at h;by_cases h2:cz s.source=0
  ·rw [if_pos h2]at h;by_cases h3:cz s.after=0;exact⟨lg h1,lg h2,lg h3⟩;rw [if_neg h3]at h;exact absurd h h3
  rw [if_neg h2]at h;exact absurd h h2
 rw [if_neg h1]at h;exact absurd h h1
theorem dU {s:bW} {fH:Bool} (h:bR s fH=0):s.before.length≤20∧s.source.length≤20∧s.after.length≤20:=by
 unfold bR at h;by_cases h1:fe [s.before,s.source,s.after] = 0;exact He h1;rw [if_neg h1]at h;exact absurd h h1
end Go.Proofs.YtkggjgeihhialaaGreatDoor
namespace Go.Proofs.YtkggjgeihhialaaGreatDoor
open Go.RowKit
theorem Fu (name:ByteArray) (left right:bW) (A:Option Addr) (n c:Nat) (L1 L2 L3 R1 R2 R3:Option Addr) (a1 a2 a3 x1 x2 x3 b1 b2 b3 y1 y2 y3:Nat) (w:World) (l1:bT w w.heap.size L1 a1 left.before) (l2:bT w w.heap.size L2 a2 left.source) (l3:bT w w.heap.size L3 a3 left.after) (Bo:a1≤maxLen) (xO:a2≤maxLen) (zQ:a3≤maxLen) (r1:bT w w.heap.size R1 b1 right.before) (r2:bT w w.heap.size R2 b2 right.source) (r3:bT w w.heap.size R3 b3 right.after) (AA:b1≤maxLen) (xL:b2≤maxLen) (Bk:b3≤maxLen) :
    Calls Tryz.prog 74 #[.agg #[.int .i64 2,.string name,.slice A n c,.int .i64 1,.bool left.start,.bool left.fin,.slice L1 a1 x1,.slice L2 a2 x2,.slice L3 a3 x3,.int .i64 left.ag,.bool right.start,.bool right.fin,.slice R1 b1 y1,.slice R2 b2 y2,.slice R3 b3 y3,.int .i64 right.ag]] w fun e w'=>e=.returned (.int .i64 (cZ 1 left right))∧Below w.heap.size w w':=by
 have SL:=qqh (fun w' (hb:Below w.heap.size w w') fH=>gE left fH L1 L2 L3 a1 a2 a3 x1 x2 x3 w' (aO l1 hb) (aO l2 hb) (aO l3 hb) Bo xO zQ);have TL:=qqh (fun w' (hb:Below w.heap.size w w')=>gC left L1 L2 L3 a1 a2 a3 x1 x2 x3 w' (aO l2 hb) xO);have BL:=qqh (fun w' fH (h0:bR left fH=0)=>gB left L1 L2 L3 a1 a2 a3 x1 x2 x3 w' (j7.len l1) (j7.len l3) (by rw [← j7.len l1];exact(dU h0).1) (by rw [← j7.len l3];exact(dU h0).2.2));have SR:=qqh (fun w' (hb:Below w.heap.size w w') fH=>gE right fH R1 R2 R3 b1 b2 b3 y1 y2 y3 w' (aO r1 hb) (aO r2 hb) (aO r3 hb) AA xL Bk);have TR:=qqh (fun w' (hb:Below w.heap.size w w')=>gC right R1 R2 R3 b1 b2 b3 y1 y2 y3 w' (aO r2 hb) xL);have BR:=qqh (fun w' fH (h0:bR right fH=0)=>gB right R1 R2 R3 b1 b2 b3 y1 y2 y3 w' (j7.len r1) (j7.len r3) (by rw [← j7.len r1];exact(dU h0).1) (by rw [← j7.len r3];exact(dU h0).2.2));clear l1 l2 l3 r1 r2 r3 Bo xO zQ AA xL Bk;have dY:=qqh ((Below.refl w.heap.size w).alloc (Nat.le_refl _) (.cells #[.int .i64 2,.string name,.slice A n c,.int .i64 1,.bool left.start,.bool left.fin,.slice L1 a1 x1,.slice L2 a2 x2,.slice L3 a3 x3,.int .i64 left.ag,.bool right.start,.bool right.fin,.slice R1 b1 y1,.slice R2 b2 y2,.slice R3 b3 y3,.int .i64 right.ag] 103));have ir:=qqh (aj.new w 103 #[.int .i64 2,.string name,.slice A n c,.int .i64 1,.bool left.start,.bool left.fin,.slice L1 a1 x1,.slice L2 a2 x2,.slice L3 a3 x3,.int .i64 left.ag,.bool right.start,.bool right.fin,.slice R1 b1 y1,.slice R2 b2 y2,.slice R3 b3 y3,.int .i64 right.ag]);go_enter Tryz.func74,Tryz.ntmps74;go_wp2_with fail
 generalize w.alloc (.cells #[.int .i64 2,.string name,.slice A n c,.int .i64 1,.bool left.start,.bool left.fin,.slice L1 a1 x1,.slice L2 a2 x2,.slice L3 a3 x3,.int .i64 left.ag,.bool right.start,.bool right.fin,.slice R1 b1 y1,.slice R2 b2 y2,.slice R3 b3 y3,.int .i64 right.ag] 103)=W0 at *;have c0:W0.cell? ⟨w.heap.size,0,none⟩=some (.int .i64 2):=ir.out.cell 0;have c3:W0.cell? ⟨w.heap.size,3,none⟩=some (.int .i64 1):=ir.out.cell 3;have c4:W0.cell? ⟨w.heap.size,4,none⟩=some (.bool left.start):=ir.out.cell 4;have c5:W0.cell? ⟨w.heap.size,5,none⟩=some (.bool left.fin):=ir.out.cell 5;have c6:W0.cell? ⟨w.heap.size,6,none⟩=some (.slice L1 a1 x1):=ir.out.cell 6;have c7:W0.cell? ⟨w.heap.size,7,none⟩=some (.slice L2 a2 x2):=ir.out.cell 7;have c8:W0.cell? ⟨w.heap.size,8,none⟩=some (.slice L3 a3 x3):=ir.out.cell 8;have c9:W0.cell? ⟨w.heap.size,9,none⟩=some (.int .i64 left.ag):=ir.out.cell 9;have c10:W0.cell? ⟨w.heap.size,10,none⟩=some (.bool right.start):=ir.out.cell 10;have c11:W0.cell? ⟨w.heap.size,11,none⟩=some (.bool right.fin):=ir.out.cell 11;have c12:W0.cell? ⟨w.heap.size,12,none⟩=some (.slice R1 b1 y1):=ir.out.cell 12;have c13:W0.cell? ⟨w.heap.size,13,none⟩=some (.slice R2 b2 y2):=ir.out.cell 13;have c14:W0.cell? ⟨w.heap.size,14,none⟩=some (.slice R3 b3 y3):=ir.out.cell 14;have c15:W0.cell? ⟨w.heap.size,15,none⟩=some (.int .i64 right.ag):=ir.out.cell 15;go_quiet (fail);go_wp2_with fail;refine(SL.out _ (below_drewN dY.out _) true).mono ?_;rintro e w1 ⟨rfl,hb⟩;have qL:=qqh (dY.out.trans (Below.trans (below_drewN (Below.refl _ _) _) (hb.mono (by exact Nat.le_refl _)) |>.mono dY.out.size));have ji:=qqh (aj.below (aj.drewN ir.out _) hb ir.out.lt);clear hb;have d10:w1.cell? ⟨w.heap.size,10,none⟩=some (.bool right.start):=ji.out.cell 10
 have d11:w1.cell? ⟨w.heap.size,11,none⟩=some (.bool right.fin):=ji.out.cell 11;have d12:w1.cell? ⟨w.heap.size,12,none⟩=some (.slice R1 b1 y1):=ji.out.cell 12;have d13:w1.cell? ⟨w.heap.size,13,none⟩=some (.slice R2 b2 y2):=ji.out.cell 13;have d14:w1.cell? ⟨w.heap.size,14,none⟩=some (.slice R3 b3 y3):=ji.out.cell 14;have d15:w1.cell? ⟨w.heap.size,15,none⟩=some (.int .i64 right.ag):=ji.out.cell 15;by_cases e1:bR left true=0
 ·have Xh:(bR left true != 0)=false:=(by simp [e1]);go_wp2_with fail;refine(SR.out w1 qL.out false).mono ?_;rintro e w2 ⟨rfl,hb⟩;have jt:=qqh (aj.below ji.out hb ji.out.lt);have qO:=qqh (qL.out.trans (hb.mono qL.out.size));clear hb;have d10:w2.cell? ⟨w.heap.size,10,none⟩=some (.bool right.start):=jt.out.cell 10;have d11:w2.cell? ⟨w.heap.size,11,none⟩=some (.bool right.fin):=jt.out.cell 11;have d12:w2.cell? ⟨w.heap.size,12,none⟩=some (.slice R1 b1 y1):=jt.out.cell 12;have d13:w2.cell? ⟨w.heap.size,13,none⟩=some (.slice R2 b2 y2):=jt.out.cell 13;have d14:w2.cell? ⟨w.heap.size,14,none⟩=some (.slice R3 b3 y3):=jt.out.cell 14;have d15:w2.cell? ⟨w.heap.size,15,none⟩=some (.int .i64 right.ag):=jt.out.cell 15;by_cases e2:bR right false=0
  ·have XU:(bR right false != 0)=false:=(by simp [e2]);go_wp2_with fail;refine(TR.out w2 qO.out).mono ?_;rintro e w3 ⟨rfl,hb⟩;have jv:=qqh (aj.below jt.out hb jt.out.lt);have ur:=qqh (qO.out.trans (hb.mono qO.out.size));clear hb;have d10:w3.cell? ⟨w.heap.size,10,none⟩=some (.bool right.start):=jv.out.cell 10;have d11:w3.cell? ⟨w.heap.size,11,none⟩=some (.bool right.fin):=jv.out.cell 11;have d12:w3.cell? ⟨w.heap.size,12,none⟩=some (.slice R1 b1 y1):=jv.out.cell 12;have d13:w3.cell? ⟨w.heap.size,13,none⟩=some (.slice R2 b2 y2):=jv.out.cell 13;have d14:w3.cell? ⟨w.heap.size,14,none⟩=some (.slice R3 b3 y3):=jv.out.cell 14;have d15:w3.cell? ⟨w.heap.size,15,none⟩=some (.int .i64 right.ag):=jv.out.cell 15;cases hp:gl right.source
   ·have HV:=qqh (show cZ 1 left right=8 by simp [cZ,ug,e1,e2,hp]);clear e1 e2 hp;go_wp2_with fail;go_ret;rw [HV.out];exact⟨rfl,ur.out⟩
   go_wp2_with fail;refine(BR.out w3 false e2).mono ?_;rintro e w4 ⟨rfl,hb⟩;have PM:=qqh (aj.below jv.out hb jv.out.lt);have yM:=qqh (ur.out.trans (hb.mono ur.out.size));clear hb;have d9:w4.cell? ⟨w.heap.size,9,none⟩=some (.int .i64 left.ag):=PM.out.cell 9;cases ha:mB right
   ·by_cases FF:left.ag<0
    ·have HV:=qqh (show cZ 1 left right=0 by simp [cZ,ug,e1,e2,hp,ha,FF]);clear e1 e2 hp ha;go_wp2_with fail;go_ret;rw [HV.out];exact⟨rfl,yM.out⟩
    have HV:=qqh (show cZ 1 left right=8 by simp [cZ,ug,e1,e2,hp,ha,FF]);clear e1 e2 hp ha;go_wp2_with fail;go_ret;rw [HV.out];exact⟨rfl,yM.out⟩
   have HV:=qqh (show cZ 1 left right=8 by simp [cZ,ug,e1,e2,hp,ha]);clear e1 e2 hp ha;go_wp2_with fail;go_ret;rw [HV.out];exact⟨rfl,yM.out⟩
  have XU:(bR right false != 0)=true:=(by simpa using e2);have HV:=qqh (show cZ 1 left right=bR right false by simp [cZ,e1,e2]);clear e1 e2;go_wp2_with fail;go_ret;rw [HV.out];exact⟨rfl,qO.out⟩
 have Xh:(bR left true != 0)=true:=(by simpa using e1);have HV:=qqh (show cZ 1 left right=bR left true by simp [cZ,e1]);clear e1;go_wp2_with fail;go_ret;rw [HV.out];exact⟨rfl,qL.out⟩
theorem EK (name:ByteArray) (left right:bW) (A:Option Addr) (n c:Nat) (L1 L2 L3 R1 R2 R3:Option Addr) (a1 a2 a3 x1 x2 x3 b1 b2 b3 y1 y2 y3:Nat) (w:World) (l1:bT w w.heap.size L1 a1 left.before) (l2:bT w w.heap.size L2 a2 left.source) (l3:bT w w.heap.size L3 a3 left.after) (Bo:a1≤maxLen) (xO:a2≤maxLen) (zQ:a3≤maxLen) (r1:bT w w.heap.size R1 b1 right.before) (r2:bT w w.heap.size R2 b2 right.source) (r3:bT w w.heap.size R3 b3 right.after) (AA:b1≤maxLen) (xL:b2≤maxLen) (Bk:b3≤maxLen) :
    Calls Tryz.prog 74 #[.agg #[.int .i64 2,.string name,.slice A n c,.int .i64 2,.bool left.start,.bool left.fin,.slice L1 a1 x1,.slice L2 a2 x2,.slice L3 a3 x3,.int .i64 left.ag,.bool right.start,.bool right.fin,.slice R1 b1 y1,.slice R2 b2 y2,.slice R3 b3 y3,.int .i64 right.ag]] w fun e w'=>e=.returned (.int .i64 (cZ 2 left right))∧Below w.heap.size w w':=by
 have SL:=qqh (fun w' (hb:Below w.heap.size w w') fH=>gE left fH L1 L2 L3 a1 a2 a3 x1 x2 x3 w' (aO l1 hb) (aO l2 hb) (aO l3 hb) Bo xO zQ);have TL:=qqh (fun w' (hb:Below w.heap.size w w')=>gC left L1 L2 L3 a1 a2 a3 x1 x2 x3 w' (aO l2 hb) xO);have BL:=qqh (fun w' fH (h0:bR left fH=0)=>gB left L1 L2 L3 a1 a2 a3 x1 x2 x3 w' (j7.len l1) (j7.len l3) (by rw [← j7.len l1];exact(dU h0).1) (by rw [← j7.len l3];exact(dU h0).2.2));have SR:=qqh (fun w' (hb:Below w.heap.size w w') fH=>gE right fH R1 R2 R3 b1 b2 b3 y1 y2 y3 w' (aO r1 hb) (aO r2 hb) (aO r3 hb) AA xL Bk);have TR:=qqh (fun w' (hb:Below w.heap.size w w')=>gC right R1 R2 R3 b1 b2 b3 y1 y2 y3 w' (aO r2 hb) xL);have BR:=qqh (fun w' fH (h0:bR right fH=0)=>gB right R1 R2 R3 b1 b2 b3 y1 y2 y3 w' (j7.len r1) (j7.len r3) (by rw [← j7.len r1];exact(dU h0).1) (by rw [← j7.len r3];exact(dU h0).2.2));clear l1 l2 l3 r1 r2 r3 Bo xO zQ AA xL Bk;have dY:=qqh ((Below.refl w.heap.size w).alloc (Nat.le_refl _) (.cells #[.int .i64 2,.string name,.slice A n c,.int .i64 2,.bool left.start,.bool left.fin,.slice L1 a1 x1,.slice L2 a2 x2,.slice L3 a3 x3,.int .i64 left.ag,.bool right.start,.bool right.fin,.slice R1 b1 y1,.slice R2 b2 y2,.slice R3 b3 y3,.int .i64 right.ag] 103));have ir:=qqh (aj.new w 103 #[.int .i64 2,.string name,.slice A n c,.int .i64 2,.bool left.start,.bool left.fin,.slice L1 a1 x1,.slice L2 a2 x2,.slice L3 a3 x3,.int .i64 left.ag,.bool right.start,.bool right.fin,.slice R1 b1 y1,.slice R2 b2 y2,.slice R3 b3 y3,.int .i64 right.ag]);go_enter Tryz.func74,Tryz.ntmps74;go_wp2_with fail
 generalize w.alloc (.cells #[.int .i64 2,.string name,.slice A n c,.int .i64 2,.bool left.start,.bool left.fin,.slice L1 a1 x1,.slice L2 a2 x2,.slice L3 a3 x3,.int .i64 left.ag,.bool right.start,.bool right.fin,.slice R1 b1 y1,.slice R2 b2 y2,.slice R3 b3 y3,.int .i64 right.ag] 103)=W0 at *;have c0:W0.cell? ⟨w.heap.size,0,none⟩=some (.int .i64 2):=ir.out.cell 0;have c3:W0.cell? ⟨w.heap.size,3,none⟩=some (.int .i64 2):=ir.out.cell 3;have c4:W0.cell? ⟨w.heap.size,4,none⟩=some (.bool left.start):=ir.out.cell 4;have c5:W0.cell? ⟨w.heap.size,5,none⟩=some (.bool left.fin):=ir.out.cell 5;have c6:W0.cell? ⟨w.heap.size,6,none⟩=some (.slice L1 a1 x1):=ir.out.cell 6;have c7:W0.cell? ⟨w.heap.size,7,none⟩=some (.slice L2 a2 x2):=ir.out.cell 7;have c8:W0.cell? ⟨w.heap.size,8,none⟩=some (.slice L3 a3 x3):=ir.out.cell 8;have c9:W0.cell? ⟨w.heap.size,9,none⟩=some (.int .i64 left.ag):=ir.out.cell 9;have c10:W0.cell? ⟨w.heap.size,10,none⟩=some (.bool right.start):=ir.out.cell 10;have c11:W0.cell? ⟨w.heap.size,11,none⟩=some (.bool right.fin):=ir.out.cell 11;have c12:W0.cell? ⟨w.heap.size,12,none⟩=some (.slice R1 b1 y1):=ir.out.cell 12;have c13:W0.cell? ⟨w.heap.size,13,none⟩=some (.slice R2 b2 y2):=ir.out.cell 13;have c14:W0.cell? ⟨w.heap.size,14,none⟩=some (.slice R3 b3 y3):=ir.out.cell 14;have c15:W0.cell? ⟨w.heap.size,15,none⟩=some (.int .i64 right.ag):=ir.out.cell 15;go_quiet (fail);go_wp2_with fail;refine(SL.out _ (below_drewN dY.out _) false).mono ?_;rintro e w1 ⟨rfl,hb⟩;have qL:=qqh (dY.out.trans (Below.trans (below_drewN (Below.refl _ _) _) (hb.mono (by exact Nat.le_refl _)) |>.mono dY.out.size));have ji:=qqh (aj.below (aj.drewN ir.out _) hb ir.out.lt);clear hb;have d10:w1.cell? ⟨w.heap.size,10,none⟩=some (.bool right.start):=ji.out.cell 10
 have d11:w1.cell? ⟨w.heap.size,11,none⟩=some (.bool right.fin):=ji.out.cell 11;have d12:w1.cell? ⟨w.heap.size,12,none⟩=some (.slice R1 b1 y1):=ji.out.cell 12;have d13:w1.cell? ⟨w.heap.size,13,none⟩=some (.slice R2 b2 y2):=ji.out.cell 13;have d14:w1.cell? ⟨w.heap.size,14,none⟩=some (.slice R3 b3 y3):=ji.out.cell 14;have d15:w1.cell? ⟨w.heap.size,15,none⟩=some (.int .i64 right.ag):=ji.out.cell 15;by_cases e1:bR left false=0
 ·have Xh:(bR left false != 0)=false:=(by simp [e1]);go_wp2_with fail;refine(SR.out w1 qL.out true).mono ?_;rintro e w2 ⟨rfl,hb⟩;have jt:=qqh (aj.below ji.out hb ji.out.lt);have qO:=qqh (qL.out.trans (hb.mono qL.out.size));clear hb;have d4:w2.cell? ⟨w.heap.size,4,none⟩=some (.bool left.start):=jt.out.cell 4;have d5:w2.cell? ⟨w.heap.size,5,none⟩=some (.bool left.fin):=jt.out.cell 5;have d6:w2.cell? ⟨w.heap.size,6,none⟩=some (.slice L1 a1 x1):=jt.out.cell 6;have d7:w2.cell? ⟨w.heap.size,7,none⟩=some (.slice L2 a2 x2):=jt.out.cell 7;have d8:w2.cell? ⟨w.heap.size,8,none⟩=some (.slice L3 a3 x3):=jt.out.cell 8;have d9:w2.cell? ⟨w.heap.size,9,none⟩=some (.int .i64 left.ag):=jt.out.cell 9;by_cases e2:bR right true=0
  ·have XU:(bR right true != 0)=false:=(by simp [e2]);go_wp2_with fail;refine(TL.out w2 qO.out).mono ?_;rintro e w3 ⟨rfl,hb⟩;have jv:=qqh (aj.below jt.out hb jt.out.lt);have ur:=qqh (qO.out.trans (hb.mono qO.out.size));clear hb;have d4:w3.cell? ⟨w.heap.size,4,none⟩=some (.bool left.start):=jv.out.cell 4;have d5:w3.cell? ⟨w.heap.size,5,none⟩=some (.bool left.fin):=jv.out.cell 5;have d6:w3.cell? ⟨w.heap.size,6,none⟩=some (.slice L1 a1 x1):=jv.out.cell 6;have d7:w3.cell? ⟨w.heap.size,7,none⟩=some (.slice L2 a2 x2):=jv.out.cell 7;have d8:w3.cell? ⟨w.heap.size,8,none⟩=some (.slice L3 a3 x3):=jv.out.cell 8;have d9:w3.cell? ⟨w.heap.size,9,none⟩=some (.int .i64 left.ag):=jv.out.cell 9;cases hp:gl left.source
   ·have HV:=qqh (show cZ 2 left right=8 by simp [cZ,ug,e1,e2,hp]);clear e1 e2 hp;go_wp2_with fail;go_ret;rw [HV.out];exact⟨rfl,ur.out⟩
   go_wp2_with fail;refine(BL.out w3 false e1).mono ?_;rintro e w4 ⟨rfl,hb⟩;have PM:=qqh (aj.below jv.out hb jv.out.lt);have yM:=qqh (ur.out.trans (hb.mono ur.out.size));clear hb;have d15:w4.cell? ⟨w.heap.size,15,none⟩=some (.int .i64 right.ag):=PM.out.cell 15;cases ha:mB left
   ·by_cases FF:right.ag<0
    ·have HV:=qqh (show cZ 2 left right=0 by simp [cZ,ug,e1,e2,hp,ha,FF]);clear e1 e2 hp ha;go_wp2_with fail;go_ret;rw [HV.out];exact⟨rfl,yM.out⟩
    have HV:=qqh (show cZ 2 left right=8 by simp [cZ,ug,e1,e2,hp,ha,FF]);clear e1 e2 hp ha;go_wp2_with fail;go_ret;rw [HV.out];exact⟨rfl,yM.out⟩
   have HV:=qqh (show cZ 2 left right=8 by simp [cZ,ug,e1,e2,hp,ha]);clear e1 e2 hp ha;go_wp2_with fail;go_ret;rw [HV.out];exact⟨rfl,yM.out⟩
  have XU:(bR right true != 0)=true:=(by simpa using e2);have HV:=qqh (show cZ 2 left right=bR right true by simp [cZ,e1,e2]);clear e1 e2;go_wp2_with fail;go_ret;rw [HV.out];exact⟨rfl,qO.out⟩
 have Xh:(bR left false != 0)=true:=(by simpa using e1);have HV:=qqh (show cZ 2 left right=bR left false by simp [cZ,e1]);clear e1;go_wp2_with fail;go_ret;rw [HV.out];exact⟨rfl,qL.out⟩
theorem FW (name:ByteArray) (left right:bW) (A:Option Addr) (n c:Nat) (L1 L2 L3 R1 R2 R3:Option Addr) (a1 a2 a3 x1 x2 x3 b1 b2 b3 y1 y2 y3:Nat) (w:World) (l1:bT w w.heap.size L1 a1 left.before) (l2:bT w w.heap.size L2 a2 left.source) (l3:bT w w.heap.size L3 a3 left.after) (Bo:a1≤maxLen) (xO:a2≤maxLen) (zQ:a3≤maxLen) (r1:bT w w.heap.size R1 b1 right.before) (r2:bT w w.heap.size R2 b2 right.source) (r3:bT w w.heap.size R3 b3 right.after) (AA:b1≤maxLen) (xL:b2≤maxLen) (Bk:b3≤maxLen) :
    Calls Tryz.prog 74 #[.agg #[.int .i64 2,.string name,.slice A n c,.int .i64 3,.bool left.start,.bool left.fin,.slice L1 a1 x1,.slice L2 a2 x2,.slice L3 a3 x3,.int .i64 left.ag,.bool right.start,.bool right.fin,.slice R1 b1 y1,.slice R2 b2 y2,.slice R3 b3 y3,.int .i64 right.ag]] w fun e w'=>e=.returned (.int .i64 (cZ 3 left right))∧Below w.heap.size w w':=by
 have SL:=qqh (fun w' (hb:Below w.heap.size w w') fH=>gE left fH L1 L2 L3 a1 a2 a3 x1 x2 x3 w' (aO l1 hb) (aO l2 hb) (aO l3 hb) Bo xO zQ);have TL:=qqh (fun w' (hb:Below w.heap.size w w')=>gC left L1 L2 L3 a1 a2 a3 x1 x2 x3 w' (aO l2 hb) xO);have BL:=qqh (fun w' fH (h0:bR left fH=0)=>gB left L1 L2 L3 a1 a2 a3 x1 x2 x3 w' (j7.len l1) (j7.len l3) (by rw [← j7.len l1];exact(dU h0).1) (by rw [← j7.len l3];exact(dU h0).2.2));have SR:=qqh (fun w' (hb:Below w.heap.size w w') fH=>gE right fH R1 R2 R3 b1 b2 b3 y1 y2 y3 w' (aO r1 hb) (aO r2 hb) (aO r3 hb) AA xL Bk);have TR:=qqh (fun w' (hb:Below w.heap.size w w')=>gC right R1 R2 R3 b1 b2 b3 y1 y2 y3 w' (aO r2 hb) xL);have BR:=qqh (fun w' fH (h0:bR right fH=0)=>gB right R1 R2 R3 b1 b2 b3 y1 y2 y3 w' (j7.len r1) (j7.len r3) (by rw [← j7.len r1];exact(dU h0).1) (by rw [← j7.len r3];exact(dU h0).2.2));clear l1 l2 l3 r1 r2 r3 Bo xO zQ AA xL Bk;have dY:=qqh ((Below.refl w.heap.size w).alloc (Nat.le_refl _) (.cells #[.int .i64 2,.string name,.slice A n c,.int .i64 3,.bool left.start,.bool left.fin,.slice L1 a1 x1,.slice L2 a2 x2,.slice L3 a3 x3,.int .i64 left.ag,.bool right.start,.bool right.fin,.slice R1 b1 y1,.slice R2 b2 y2,.slice R3 b3 y3,.int .i64 right.ag] 103));have ir:=qqh (aj.new w 103 #[.int .i64 2,.string name,.slice A n c,.int .i64 3,.bool left.start,.bool left.fin,.slice L1 a1 x1,.slice L2 a2 x2,.slice L3 a3 x3,.int .i64 left.ag,.bool right.start,.bool right.fin,.slice R1 b1 y1,.slice R2 b2 y2,.slice R3 b3 y3,.int .i64 right.ag]);go_enter Tryz.func74,Tryz.ntmps74;go_wp2_with fail
 generalize w.alloc (.cells #[.int .i64 2,.string name,.slice A n c,.int .i64 3,.bool left.start,.bool left.fin,.slice L1 a1 x1,.slice L2 a2 x2,.slice L3 a3 x3,.int .i64 left.ag,.bool right.start,.bool right.fin,.slice R1 b1 y1,.slice R2 b2 y2,.slice R3 b3 y3,.int .i64 right.ag] 103)=W0 at *;have c0:W0.cell? ⟨w.heap.size,0,none⟩=some (.int .i64 2):=ir.out.cell 0;have c3:W0.cell? ⟨w.heap.size,3,none⟩=some (.int .i64 3):=ir.out.cell 3;have c4:W0.cell? ⟨w.heap.size,4,none⟩=some (.bool left.start):=ir.out.cell 4;have c5:W0.cell? ⟨w.heap.size,5,none⟩=some (.bool left.fin):=ir.out.cell 5;have c6:W0.cell? ⟨w.heap.size,6,none⟩=some (.slice L1 a1 x1):=ir.out.cell 6;have c7:W0.cell? ⟨w.heap.size,7,none⟩=some (.slice L2 a2 x2):=ir.out.cell 7;have c8:W0.cell? ⟨w.heap.size,8,none⟩=some (.slice L3 a3 x3):=ir.out.cell 8;have c9:W0.cell? ⟨w.heap.size,9,none⟩=some (.int .i64 left.ag):=ir.out.cell 9;have c10:W0.cell? ⟨w.heap.size,10,none⟩=some (.bool right.start):=ir.out.cell 10;have c11:W0.cell? ⟨w.heap.size,11,none⟩=some (.bool right.fin):=ir.out.cell 11;have c12:W0.cell? ⟨w.heap.size,12,none⟩=some (.slice R1 b1 y1):=ir.out.cell 12;have c13:W0.cell? ⟨w.heap.size,13,none⟩=some (.slice R2 b2 y2):=ir.out.cell 13;have c14:W0.cell? ⟨w.heap.size,14,none⟩=some (.slice R3 b3 y3):=ir.out.cell 14;have c15:W0.cell? ⟨w.heap.size,15,none⟩=some (.int .i64 right.ag):=ir.out.cell 15;go_quiet (fail);go_wp2_with fail;refine(SL.out _ (below_drewN dY.out _) true).mono ?_;rintro e w1 ⟨rfl,hb⟩;have qL:=qqh (dY.out.trans (Below.trans (below_drewN (Below.refl _ _) _) (hb.mono (by exact Nat.le_refl _)) |>.mono dY.out.size));have ji:=qqh (aj.below (aj.drewN ir.out _) hb ir.out.lt);clear hb;have d10:w1.cell? ⟨w.heap.size,10,none⟩=some (.bool right.start):=ji.out.cell 10
 have d11:w1.cell? ⟨w.heap.size,11,none⟩=some (.bool right.fin):=ji.out.cell 11;have d12:w1.cell? ⟨w.heap.size,12,none⟩=some (.slice R1 b1 y1):=ji.out.cell 12;have d13:w1.cell? ⟨w.heap.size,13,none⟩=some (.slice R2 b2 y2):=ji.out.cell 13;have d14:w1.cell? ⟨w.heap.size,14,none⟩=some (.slice R3 b3 y3):=ji.out.cell 14;have d15:w1.cell? ⟨w.heap.size,15,none⟩=some (.int .i64 right.ag):=ji.out.cell 15;by_cases e1:bR left true=0
 ·have Xh:(bR left true != 0)=false:=(by simp [e1]);go_wp2_with fail;refine(SR.out w1 qL.out true).mono ?_;rintro e w2 ⟨rfl,hb⟩;have jt:=qqh (aj.below ji.out hb ji.out.lt);have qO:=qqh (qL.out.trans (hb.mono qL.out.size));clear hb;have d10:w2.cell? ⟨w.heap.size,10,none⟩=some (.bool right.start):=jt.out.cell 10;have d11:w2.cell? ⟨w.heap.size,11,none⟩=some (.bool right.fin):=jt.out.cell 11;have d12:w2.cell? ⟨w.heap.size,12,none⟩=some (.slice R1 b1 y1):=jt.out.cell 12;have d13:w2.cell? ⟨w.heap.size,13,none⟩=some (.slice R2 b2 y2):=jt.out.cell 13;have d14:w2.cell? ⟨w.heap.size,14,none⟩=some (.slice R3 b3 y3):=jt.out.cell 14;have d15:w2.cell? ⟨w.heap.size,15,none⟩=some (.int .i64 right.ag):=jt.out.cell 15;by_cases e2:bR right true=0
  ·have XU:(bR right true != 0)=false:=(by simp [e2]);go_wp2_with fail;refine(TR.out w2 qO.out).mono ?_;rintro e w3 ⟨rfl,hb⟩;have jv:=qqh (aj.below jt.out hb jt.out.lt);have ur:=qqh (qO.out.trans (hb.mono qO.out.size));clear hb;have d4:w3.cell? ⟨w.heap.size,4,none⟩=some (.bool left.start):=jv.out.cell 4;have d5:w3.cell? ⟨w.heap.size,5,none⟩=some (.bool left.fin):=jv.out.cell 5;have d6:w3.cell? ⟨w.heap.size,6,none⟩=some (.slice L1 a1 x1):=jv.out.cell 6;have d7:w3.cell? ⟨w.heap.size,7,none⟩=some (.slice L2 a2 x2):=jv.out.cell 7;have d8:w3.cell? ⟨w.heap.size,8,none⟩=some (.slice L3 a3 x3):=jv.out.cell 8;have d9:w3.cell? ⟨w.heap.size,9,none⟩=some (.int .i64 left.ag):=jv.out.cell 9;cases hp:gl right.source
   ·have HV:=qqh (show cZ 3 left right=8 by simp [cZ,ug,e1,e2,hp]);clear e1 e2 hp;go_wp2_with fail;go_ret;rw [HV.out];exact⟨rfl,ur.out⟩
   go_wp2_with fail;refine(TL.out w3 ur.out).mono ?_;rintro e w4 ⟨rfl,hb⟩;have PM:=qqh (aj.below jv.out hb jv.out.lt);have yM:=qqh (ur.out.trans (hb.mono ur.out.size));clear hb;cases hq:gl left.source
   ·have HV:=qqh (show cZ 3 left right=8 by simp [cZ,ug,e1,e2,hp,hq]);clear e1 e2 hp hq;go_wp2_with fail;go_ret;rw [HV.out];exact⟨rfl,yM.out⟩
   have HV:=qqh (show cZ 3 left right=0 by simp [cZ,ug,e1,e2,hp,hq]);clear e1 e2 hp hq;go_wp2_with fail;go_ret;rw [HV.out];exact⟨rfl,yM.out⟩
  have XU:(bR right true != 0)=true:=(by simpa using e2);have HV:=qqh (show cZ 3 left right=bR right true by simp [cZ,e1,e2]);clear e1 e2;go_wp2_with fail;go_ret;rw [HV.out];exact⟨rfl,qO.out⟩
 have Xh:(bR left true != 0)=true:=(by simpa using e1);have HV:=qqh (show cZ 3 left right=bR left true by simp [cZ,e1]);clear e1;go_wp2_with fail;go_ret;rw [HV.out];exact⟨rfl,qL.out⟩
theorem Lj (name:ByteArray) (left right:bW) (dir:Int) (A:Option Addr) (n c:Nat) (L1 L2 L3 R1 R2 R3:Option Addr) (a1 a2 a3 x1 x2 x3 b1 b2 b3 y1 y2 y3:Nat) (w:World) (h:dir<1∨3<dir) :
    Calls Tryz.prog 74 #[.agg #[.int .i64 2,.string name,.slice A n c,.int .i64 dir,.bool left.start,.bool left.fin,.slice L1 a1 x1,.slice L2 a2 x2,.slice L3 a3 x3,.int .i64 left.ag,.bool right.start,.bool right.fin,.slice R1 b1 y1,.slice R2 b2 y2,.slice R3 b3 y3,.int .i64 right.ag]] w fun e w'=>e=.returned (.int .i64 1)∧Below w.heap.size w w':=by
 have HB:=qqh ((Below.refl w.heap.size w).alloc (Nat.le_refl _) (.cells #[.int .i64 2,.string name,.slice A n c,.int .i64 dir,.bool left.start,.bool left.fin,.slice L1 a1 x1,.slice L2 a2 x2,.slice L3 a3 x3,.int .i64 left.ag,.bool right.start,.bool right.fin,.slice R1 b1 y1,.slice R2 b2 y2,.slice R3 b3 y3,.int .i64 right.ag] 103));rcases h with h | h
 all_goals
   go_enter Tryz.func74,Tryz.ntmps74
   go_wp2_with fail
   go_ret
   exact⟨rfl,HB.out⟩
end Go.Proofs.YtkggjgeihhialaaGreatDoor
