/- OpenSpans + Parts + Item + Items + Side + SideMore + Told + SideWalk + PartP + PartRule -/
import Derived.Test.YtblinekbpcdbfaaGreatDoorZv5
import Derived.Test.YtblinekbpcdbfaaGreatDoorZv9
import Derived.Test.YtblinekbpcdbfaaGreatDoorZv4
import Derived.Test.YtblinekbpcdbfaaGreatDoorZv7
import Derived.Deep.QuietTactic
import Derived.BigQuiet
set_option maxHeartbeats 3200000
set_option maxRecDepth 100000
namespace Go.Proofs.YtblinekbpcdbfaaGreatDoor
open Go.RowKit Go.ChangeShapes Go.WideShapes Go.ChangeAt
section
variable {H : Type} {enc : TypeId × Value → H} {w : World}
theorem I8 {m:Nat} {cs:List Value} {y:DataW H × List MemPlace} (h:DataW.trod enc Tryz.prog w 0 (fun _=>true) true m 134 cs=some y):∃ z:Int × Int,cs = [.int .i32 z.1,.int .i32 z.2]:=by
 have c1 : Tryz.prog.cellsOf 21 = 1:=(by kernel_rfl);have c2 : Tryz.prog.cellsOf 134 = 2:=(by kernel_rfl);obtain⟨y0,y1,n,_,hl,h0,h1⟩:=trod_struct2 Tryz.underlying134 h;dsimp only at h0 h1;rw [c1]at h0 h1;rw [c2]at hl;obtain⟨a,e0,_,_⟩:=DataW.trod_int Tryz.underlying21 h0;obtain⟨b,e1,_,_⟩:=DataW.trod_int Tryz.underlying21 h1;match cs,hl with
 | [u,v],_=>
  simp at e0 e1;exact⟨(a,b),by rw [e0,e1]⟩
theorem E3 {fuel n c:Nat} {A:Option Addr} {x:DataW H × List MemPlace} (h:DataW.trod enc Tryz.prog w 0 (fun _=>true) true fuel 22 [.slice A n c] = some x) :
    n≤c∧c≤maxLen∧(∃ l,kM w w.heap.size A n l)∧((x.1=.nil∧c=0)∨∃ elems spare,x.1=.slice elems spare∧elems.length+spare.length=c):=by
 obtain⟨h1,h2,l,css,hl,hc,hR,_,hrd,hx⟩:=Ir Tryz.underlying22 (sz:=2) (by kernel_rfl) (by decide) h (fun(z:Int × Int) cs=>cs = [.int .i32 z.1,.int .i32 z.2]) (fun m cs y hy=>I8 hy);rw [Dg (fun z:Int × Int=>[.int .i32 z.1,.int .i32 z.2]) l css (by omega) hR]at hrd;exact⟨h1,h2,⟨l,hrd⟩,hx⟩
end
def kf {α:Type} (R:α→List Value→Prop) (w:World) (B sz:Nat) (A:Option Addr) (n:Nat) (l:List α):Prop :=
  ∃ css:List (List Value),l.length=n∧css.length=n∧(∀ (i:Nat) (a:α) (cs:List Value),l[i]? = some a→css[i]? = some cs→R a cs)∧(∀ cs∈css,cs.length=sz)∧Rd w B sz A n css.flatten
theorem kf.len {α:Type} {R:α→List Value→Prop} {w:World} {B sz n:Nat} {A:Option Addr} {l:List α} (h:kf R w B sz A n l):l.length=n:=by
 obtain⟨_,h1,_⟩:=h;exact h1
theorem kf.at {α:Type} {R:α→List Value→Prop} {w:World} {B sz n:Nat} {A:Option Addr} {l:List α} (h:kf R w B sz A n l) {k:Nat} {a:α} (hk:l[k]? = some a) :
    ∃ (b off:Nat) (cs:List Value),A=some ⟨b,off,none⟩∧b<B∧R a cs∧∀ j u,cs[j]? = some u→w.cell? ⟨b,off+k*sz+j,none⟩=some u:=by
 obtain⟨css,h1,h2,h3,h4,h5,h6⟩:=h;have hlt:k<l.length:=(List.getElem?_eq_some_iff.1 hk).1;obtain⟨b,off,e,hb,hc⟩:=h6 (by omega);obtain⟨cs,hcs⟩:∃ cs,css[k]? = some cs:=⟨_,List.getElem?_eq_getElem (by omega)⟩;refine⟨b,off,cs,e,hb,h3 k a cs hk hcs,fun j u hu=>?_⟩;rw [Nat.add_assoc];exact hc _ _ (dV h4 k cs hcs j u hu)
theorem kf.weak {α:Type} {R R':α→List Value→Prop} {w w':World} {B B' sz n:Nat} {A:Option Addr} {l:List α} (h:kf R w B sz A n l) (hR:∀ a cs,R a cs→R' a cs) (hw:∀ xs,Rd w B sz A n xs→Rd w' B' sz A n xs):kf R' w' B' sz A n l:=by
 obtain⟨css,h1,h2,h3,h4,h5⟩:=h;exact⟨css,h1,h2,fun i a cs ha hc=>hR a cs (h3 i a cs ha hc),h4,hw _ h5⟩
structure aF where
  kind:Int
  rune:Int
  set:aa
  name:ByteArray
structure bV where
  start:Bool
  fin:Bool
  before:List aF
  source:List aF
  after:List aF
  af:Int
structure aG where
  kind:Int
  name:ByteArray
  set:aa
  dir:Int
  left:bV
  right:bV
def kG (n:Int):Prop:=-9223372036854775808≤n∧n≤9223372036854775807
def zI (w:World) (B:Nat) (a:aF) (cs:List Value):Prop :=
  ∃ A n c,cs = [.int .i64 a.kind,.int .i32 a.rune,.slice A n c,.string a.name]∧kM w B A n a.set∧n≤maxLen∧kG a.kind∧a.name.size≤maxLen
def bO (w:World) (B:Nat) (A:Option Addr) (n:Nat) (l:List aF):Prop:=kf (zI w B) w B 4 A n l
def th (w:World) (B:Nat) (s:bV) (cs:List Value):Prop :=
  ∃ A1 n1 c1 A2 n2 c2 A3 n3 c3,cs = [.bool s.start,.bool s.fin,.slice A1 n1 c1,.slice A2 n2 c2,.slice A3 n3 c3,.int .i64 s.af] ∧
    bO w B A1 n1 s.before∧bO w B A2 n2 s.source∧bO w B A3 n3 s.after∧n1≤maxLen∧n2≤maxLen∧n3≤maxLen∧kG s.af
def zm (w:World) (B:Nat) (p:aG) (cs:List Value):Prop :=
  ∃ A n c ls rs,cs = [.int .i64 p.kind,.string p.name,.slice A n c,.int .i64 p.dir]++ls++rs∧kM w B A n p.set∧n≤maxLen∧th w B p.left ls∧th w B p.right rs∧kG p.kind∧kG p.dir∧p.name.size≤maxLen
def G8 (w:World) (B:Nat) (A:Option Addr) (n:Nat) (l:List aG):Prop:=kf (zm w B) w B 16 A n l
section
variable {w w' : World} {B B' : Nat}
theorem zI.weak {a:aF} {cs:List Value} (hw:∀ A sz n xs,Rd w B sz A n xs→Rd w' B' sz A n xs) (h:zI w B a cs):zI w' B' a cs:=by
 obtain⟨A,n,c,e,h1,h2⟩:=h;exact⟨A,n,c,e,hw _ _ _ _ h1,h2⟩
theorem bO.weak {A:Option Addr} {n:Nat} {l:List aF} (hw:∀ A sz n xs,Rd w B sz A n xs→Rd w' B' sz A n xs) (h:bO w B A n l):bO w' B' A n l :=
  kf.weak h (fun _ _=>zI.weak hw) (hw _ _ _)
theorem th.weak {s:bV} {cs:List Value} (hw:∀ A sz n xs,Rd w B sz A n xs→Rd w' B' sz A n xs) (h:th w B s cs):th w' B' s cs:=by
 obtain⟨A1,n1,c1,A2,n2,c2,A3,n3,c3,e,h1,h2,h3,h4⟩:=h;exact⟨A1,n1,c1,A2,n2,c2,A3,n3,c3,e,bO.weak hw h1,bO.weak hw h2,bO.weak hw h3,h4⟩
theorem zm.weak {p:aG} {cs:List Value} (hw:∀ A sz n xs,Rd w B sz A n xs→Rd w' B' sz A n xs) (h:zm w B p cs):zm w' B' p cs:=by
 obtain⟨A,n,c,ls,rs,e,h1,h2,h3,h4,h5⟩:=h;exact⟨A,n,c,ls,rs,e,hw _ _ _ _ h1,h2,th.weak hw h3,th.weak hw h4,h5⟩
theorem G8.weak {A:Option Addr} {n:Nat} {l:List aG} (hw:∀ A sz n xs,Rd w B sz A n xs→Rd w' B' sz A n xs) (h:G8 w B A n l):G8 w' B' A n l :=
  kf.weak h (fun _ _=>zm.weak hw) (hw _ _ _)
theorem gC (hb:Below B w w') (hB:B≤B'):∀ A sz n xs,Rd w B sz A n xs→Rd w' B' sz A n xs:=fun _ _ _ _ h=>Rd.more (Rd.below h hb) hB
end
end Go.Proofs.YtblinekbpcdbfaaGreatDoor
namespace Go.Proofs.YtblinekbpcdbfaaGreatDoor
open Go.RowKit
def nO (a:aF):Int :=
  if a.kind=1 then (if bE a.rune=true then 0 else 3)else if a.kind=2 then bA a.set else if a.kind=3 then (if ec a.name=true then 0 else 7)else 1
def Md (a:aF) (A:Option Addr) (n c:Nat):Value:=.agg #[.int .i64 a.kind,.int .i32 a.rune,.slice A n c,.string a.name]
theorem sN {w:World} {A:Option Addr} {n:Nat} {l:aa} (h:kM w w.heap.size A n l) (o:Obj):kM (w.alloc o) (w.alloc o).heap.size A n l :=
  gC (qqb.alloc qql o) (by simp) _ _ _ _ h
theorem Ay (a:aF) (A:Option Addr) (n c:Nat) (w:World) (hn:n≤9223372036854775807) (hs:kM w w.heap.size A n a.set) :
    Calls Tryz.prog 111 #[Md a A n c] w fun e w'=>e=.returned (.int .i64 (nO a))∧Below w.heap.size w w':=by
 obtain⟨kind,rune,set,name⟩:=a;have hbA:∀ o,Below w.heap.size w (w.alloc o):=fun o=>qqb.alloc qql o;have HS:=qqh (sN hs);have HB:=qqh hbA;clear hs hbA;unfold Md nO;dsimp only;by_cases h1:kind=1
 ·subst h1;rw [if_pos rfl];cases hr:bE rune
  all_goals
    go_enter Tryz.func111,Tryz.ntmps111
    go_wp2_with (go_at_call 43;refine(gx _ _).mono ?_;rintro e w' ⟨rfl,rfl⟩;rw [hr])
    go_ret
    exact⟨rfl,HB.out _⟩
 by_cases h2:kind=2
 ·subst h2;rw [if_neg h1,if_pos rfl];go_enter Tryz.func111,Tryz.ntmps111;go_wp2_with fail;refine(iy A n c set _ hn (HS.out _)).mono ?_;rintro e w' ⟨rfl,hb⟩;go_wp2_with fail;go_ret;exact⟨rfl,(HB.out _).trans (hb.mono (by simp))⟩
 have e1:(kind == 1)=false:=(by simpa using h1);have e2:(kind == 2)=false:=(by simpa using h2);by_cases h3:kind=3
 ·subst h3;rw [if_neg h1,if_neg h2,if_pos rfl];cases hr:ec name
  all_goals
    go_enter Tryz.func111,Tryz.ntmps111
    go_wp2_with (go_at_call 88;refine(ji _ _).mono ?_;rintro e w' ⟨rfl,rfl⟩;rw [hr])
    go_ret
    exact⟨rfl,HB.out _⟩
 have e3:(kind == 3)=false:=(by simpa using h3);rw [if_neg h1,if_neg h2,if_neg h3];clear h1 h2 h3;go_enter Tryz.func111,Tryz.ntmps111;go_wp2_with fail;go_ret;exact⟨rfl,HB.out _⟩
def lI:List aF→Int
  | []=>0
  | a::r=>if nO a=0 then lI r else nO a
def cj (l:List aF):Int:=if 20<l.length then 5 else lI l
theorem uU {w:World} {B n:Nat} {A:Option Addr} {l:List aF} (h:bO w B A n l) {k:Nat} {a:aF} (hk:l[k]? = some a) :
    ∃ (b off:Nat) (A':Option Addr) (n' c':Nat),A=some ⟨b,off,none⟩∧b<B∧w.cell? ⟨b,off+k*4,none⟩=some (.int .i64 a.kind)∧w.cell? ⟨b,off+k*4+1,none⟩=some (.int .i32 a.rune) ∧
      w.cell? ⟨b,off+k*4+2,none⟩=some (.slice A' n' c')∧w.cell? ⟨b,off+k*4+3,none⟩=some (.string a.name)∧kM w B A' n' a.set∧n'≤maxLen∧kG a.kind∧a.name.size≤maxLen:=by
 obtain⟨b,off,cs,e,hb,⟨A',n',c',hcs,h1,h2,h3,h4⟩,hc⟩:=kf.at h hk;subst hcs;exact⟨b,off,A',n',c',e,hb,hc 0 _ rfl,hc 1 _ rfl,hc 2 _ rfl,hc 3 _ rfl,h1,h2,h3,h4⟩
def Uq (W:World) (l:List aF) (n:Nat) (i:Value) (wr:World):Prop :=
  ∃ k:Nat,k≤n∧i=.int .i64 k∧lI l=lI (l.drop k)∧Below W.heap.size W wr
def fk:List (List aF)→Int
  | []=>0
  | l::r=>if cj l=0 then fk r else cj l
def bN (s:bV) (fN:Bool):Int :=
  if fk [s.before,s.source,s.after] = 0 then
    (if s.af < -1∨(s.source.length:Int)<s.af then 3 else if fN=true∧s.source.length=0 then 6 else 0)
  else fk [s.before,s.source,s.after]
def gw (l:List aF):Bool:=l.all fun a=>a.kind == 1
def nw (s:bV):Bool:=s.start || s.fin || decide (0<s.before.length) || decide (0<s.after.length)
theorem lF {l:List aF} (h:cj l=0):l.length≤20:=by
 unfold cj at h;by_cases h1:20<l.length
 ·rw [if_pos h1]at h;cases h
 omega
theorem F5 {w:World} {A:Option Addr} {n:Nat} {l:List aF} (h:bO w w.heap.size A n l) (o:Obj):bO (w.alloc o) (w.alloc o).heap.size A n l :=
  bO.weak (gC (qqb.alloc qql o) (by simp)) h
theorem aL {w w':World} {A:Option Addr} {n:Nat} {l:List aF} (h:bO w w.heap.size A n l) (hb:Below w.heap.size w w'):bO w' w'.heap.size A n l :=
  bO.weak (gC hb hb.size) h
theorem E0 (a:aF) (l:List aF):gw (a::l)=((a.kind == 1) && gw l):=rfl
def VY (W:World) (l:List aF) (n:Nat) (i:Value) (wr:World):Prop :=
  ∃ k:Nat,k≤n∧i=.int .i64 k∧gw l=gw (l.drop k)∧Below W.heap.size W wr
theorem gF (s:bV) (A1 A2 A3:Option Addr) (n1 n2 n3 c1 c2 c3:Nat) (w:World) (h1:s.before.length=n1) (h3:s.after.length=n3) (m1:n1≤20) (m3:n3≤20) :
    Calls Tryz.prog 92 #[.agg #[.bool s.start,.bool s.fin,.slice A1 n1 c1,.slice A2 n2 c2,.slice A3 n3 c3,.int .i64 s.af]] w fun e w'=>e=.returned (.bool (!nw s))∧Below w.heap.size w w':=by
 have hv:nw s=(s.start || s.fin || decide (0<n1) || decide (0<n3)):=(by unfold nw;rw [h1,h3]);rw [hv];clear hv h1 h3;obtain⟨start,fin,before,l,after,af⟩:=s;dsimp only;cases start <;> cases fin
 ·go_enter Tryz.func92,Tryz.ntmps92;go_wp2_with fail;go_ret;exact⟨bH (by rw [Bool.eq_iff_iff];simp;omega),qqb.alloc qql _⟩
 all_goals
   go_enter Tryz.func92,Tryz.ntmps92
   go_wp2_with fail
   go_ret
   exact⟨bH (by simp),qqb.alloc qql _⟩
theorem Na (a:aF) (A:Option Addr) (n c:Nat) (w:World) :
    Calls Tryz.prog 113 #[.agg #[.int .i64 a.kind,.int .i32 a.rune,.slice A n c,.string a.name]] w fun e w'=>e=.returned (.bool (a.kind != 1))∧Below w.heap.size w w':=by
 go_enter Tryz.func113,Tryz.ntmps113;go_wp2_with fail;go_ret;exact⟨rfl,qqb.alloc qql _⟩
theorem Fx (A:Option Addr) (n c:Nat) (l:List aF) (fv:Value) (YX:fv=.func (.func 113) #[] #[]) (w:World) (hl:bO w w.heap.size A n l) (m:n≤maxLen) :
    Calls Tryz.prog 127 #[.slice A n c,fv] w fun e w'=>(∃ z:Int,e=.returned (.int .i64 z)∧(decide (0≤z) = !gw l))∧Below w.heap.size w w':=by
 subst YX;have aW:=qqh (kf.len hl);have HL:=qqh hl;have hn2:n≤9223372036854775807:=(by unfold maxLen at m;omega);clear hl m;go_enter Tryz.func127,Tryz.ntmps127;go_wp2_with fail;go_loopw [8] (VY w l n) (fun i _=>n - (intOf i).toNat);(case atStart=>exact⟨0,Nat.zero_le _,rfl,rfl,qqb⟩);obtain⟨k,hk,rfl,aZ,hb⟩:=hrel;have hz:=hb.size;by_cases hlt:k<n
 ·obtain⟨a,ha⟩:∃ z,l[k]? = some z:=⟨_,List.getElem?_eq_getElem (by rw [aW.out];exact hlt)⟩;rw [cT ha,E0]at aZ;obtain⟨b,off,A',n',c',rfl,ey,c0,Yz,Re,c3',_,_,_,_⟩:=uU HL.out ha;have d0:=(hb.cell (p:=⟨b,off+k*4,none⟩) ey).trans c0;have d1:=(hb.cell (p:=⟨b,off+k*4+1,none⟩) ey).trans Yz;have d2:=(hb.cell (p:=⟨b,off+k*4+2,none⟩) ey).trans Re;have d3:=(hb.cell (p:=⟨b,off+k*4+3,none⟩) ey).trans c3';have HT:=qqh (Na a A' n' c' wr);clear c0 Yz Re c3';by_cases hk1:a.kind=1
  ·have HG:=qqh (aZ.trans (show(a.kind == 1 && gw (l.drop (k+1)))=gw (l.drop (k+1)) by simp [hk1]));have hk2:(a.kind != 1)=false:=(by simpa using hk1);clear aZ hk1;go_wp2_with fail;refine HT.out.mono ?_;rintro e w2 ⟨rfl,aX⟩;have bP:=hb.trans (aX.mono hz);rw [hk2];clear aX;go_wp2_with fail;exact⟨⟨k+1,by omega,by go_num,HG.out,bP⟩,by simp [intOf];omega⟩
  have HG:=qqh (aZ.trans (show(a.kind == 1 && gw (l.drop (k+1)))=false by simp [hk1]));have hk2:(a.kind != 1)=true:=(by simpa using hk1);clear aZ hk1;go_wp2_with fail;refine HT.out.mono ?_;rintro e w2 ⟨rfl,aX⟩;have bP:=hb.trans (aX.mono hz);rw [hk2];clear aX;go_wp2_with fail;go_ret;exact⟨⟨_,rfl,by rw [HG.out];simp⟩,bP⟩
 obtain rfl:k=n:=(by omega);rw [List.drop_of_length_le (by rw [aW.out];omega)]at aZ;have HG:=qqh (aZ.trans (show gw [] = true from rfl));clear aZ;go_wp2_with fail;go_ret;exact⟨⟨_,rfl,by rw [HG.out];simp⟩,hb⟩
theorem Nb (A:Option Addr) (n c:Nat) (l:List aF) (fv:Value) (YX:fv=.func (.func 113) #[] #[]) (w:World) (hl:bO w w.heap.size A n l) (m:n≤maxLen) :
    Calls Tryz.prog 112 #[.slice A n c,fv] w fun e w'=>e=.returned (.bool (!gw l))∧Below w.heap.size w w':=by
 have H:=qqh (Fx A n c l fv YX w hl m);clear hl m YX;go_enter Tryz.func112,Tryz.ntmps112;go_wp2_with fail;refine H.out.mono ?_;rintro e w2 ⟨⟨z,rfl,hz⟩,hb⟩;have HZ:=qqh hz;clear hz;go_wp2_with fail;go_ret;exact⟨bH HZ.out,hb⟩
theorem gG (s:bV) (A1 A2 A3:Option Addr) (n1 n2 n3 c1 c2 c3:Nat) (w:World) (h2:bO w w.heap.size A2 n2 s.source) (m2:n2≤maxLen) :
    Calls Tryz.prog 91 #[.agg #[.bool s.start,.bool s.fin,.slice A1 n1 c1,.slice A2 n2 c2,.slice A3 n3 c3,.int .i64 s.af]] w fun e w'=>e=.returned (.bool (gw s.source))∧Below w.heap.size w w':=by
 obtain⟨start,fin,before,l,after,af⟩:=s;dsimp only at h2 ⊢;have H:=qqh (fun o=>Nb A2 n2 c2 l _ rfl (w.alloc o) (F5 h2 o) m2);have HB:=qqh (fun o=>(Below.refl w.heap.size w).alloc qql o);clear h2 m2;go_enter Tryz.func91,Tryz.ntmps91;go_wp2_with fail;refine(H.out _).mono ?_;rintro e w2 ⟨rfl,hb⟩;have aX:=(HB.out _).trans (hb.mono (by simp));clear hb;go_wp2_with fail;go_ret;exact⟨bH (by simp),aX⟩
def V1 (W:World) (s:bV) (i:Value) (wr:World):Prop :=
  ∃ j:Nat,j≤3∧i=.int .i64 j∧fk [s.before,s.source,s.after] = fk ([s.before,s.source,s.after].drop j)∧Below W.heap.size W wr
theorem all_cons (l:List aF) (r:List (List aF)):fk (l::r)=if cj l=0 then fk r else cj l:=rfl
theorem J5 (s:bV) (W:World) (A1 A2 A3:Option Addr) (n1 n2 n3 c1 c2 c3:Nat) (h1:bO W W.heap.size A1 n1 s.before) (h2:bO W W.heap.size A2 n2 s.source) (h3:bO W W.heap.size A3 n3 s.after) (m1:n1≤maxLen) (m2:n2≤maxLen) (m3:n3≤maxLen) (j:Nat) (hj:j<3) :
    ∃ (A:Option Addr) (n c:Nat) (l:List aF),(#[.slice A1 n1 c1,.slice A2 n2 c2,.slice A3 n3 c3]:Array Value)[j]? = some (.slice A n c)∧bO W W.heap.size A n l∧n≤maxLen ∧ [s.before,s.source,s.after].drop j=l::[s.before,s.source,s.after].drop (j+1):=by
 match j,hj with
 | 0,_=>exact⟨A1,n1,c1,s.before,rfl,h1,m1,rfl⟩
 | 1,_=>exact⟨A2,n2,c2,s.source,rfl,h2,m2,rfl⟩
 | 2,_=>exact⟨A3,n3,c3,s.after,rfl,h3,m3,rfl⟩
theorem gD (s:bV) (fN:Bool) (A1 A2 A3:Option Addr) (n1 n2 n3 c1 c2 c3:Nat) (w:World) (h1:bO w w.heap.size A1 n1 s.before) (h2:bO w w.heap.size A2 n2 s.source) (h3:bO w w.heap.size A3 n3 s.after) (m1:n1≤maxLen) (m2:n2≤maxLen) (m3:n3≤maxLen) :
    Calls Tryz.prog 90 #[.agg #[.bool s.start,.bool s.fin,.slice A1 n1 c1,.slice A2 n2 c2,.slice A3 n3 c3,.int .i64 s.af],.bool fN] w fun e w'=>e=.returned (.int .i64 (bN s fN))∧Below w.heap.size w w':=by
 have jc:=kf.len h2;generalize hcs:(#[.bool s.start,.bool s.fin,.slice A1 n1 c1,.slice A2 n2 c2,.slice A3 n3 c3,.int .i64 s.af]:Array Value)=cs;have aT:Below w.heap.size w (w.alloc (.cells cs 84)):=qqb.alloc qql _;have aX:Below w.heap.size w ((w.alloc (.cells cs 84)).alloc (.cells #[.slice A1 n1 c1,.slice A2 n2 c2,.slice A3 n3 c3] 82)):=aT.alloc aT.size _;have hk1:aj ((w.alloc (.cells cs 84)).alloc (.cells #[.slice A1 n1 c1,.slice A2 n2 c2,.slice A3 n3 c3] 82)) w.heap.size 84 cs:=(aj.new _ _ _).alloc _;have hk2:aj ((w.alloc (.cells cs 84)).alloc (.cells #[.slice A1 n1 c1,.slice A2 n2 c2,.slice A3 n3 c3] 82)) (w.heap.size+1) 82 #[.slice A1 n1 c1,.slice A2 n2 c2,.slice A3 n3 c3]:=by
  have:=aj.new (w.alloc (.cells cs 84)) 82 #[.slice A1 n1 c1,.slice A2 n2 c2,.slice A3 n3 c3];simpa using this
 have ie:=qqh (J5 s _ A1 A2 A3 n1 n2 n3 c1 c2 c3 (aL h1 aX) (aL h2 aX) (aL h3 aX) m1 m2 m3);have hm2:n2≤9223372036854775807:=(by unfold maxLen at m2;omega);have HB:=qqh aX;have yz:=qqh hk1;have Ej:=qqh hk2;clear h1 h2 h3 m1 m2 m3 aT aX hk1 hk2;subst hcs;go_enter Tryz.func90,Tryz.ntmps90;go_wp2_with fail;generalize hW:((w.alloc (.cells #[.bool s.start,.bool s.fin,.slice A1 n1 c1,.slice A2 n2 c2,.slice A3 n3 c3,.int .i64 s.af] 84)).alloc (.cells #[.slice A1 n1 c1,.slice A2 n2 c2,.slice A3 n3 c3] 82))=W at *;clear hW;go_loopw [18] (V1 W s) (fun i _=>3 - (intOf i).toNat);(case atStart=>exact⟨0,by omega,rfl,rfl,qqb⟩);obtain⟨j,hj,rfl,hall,hb⟩:=hrel;have hz:=hb.size;by_cases hj3:j<3
 ·obtain⟨A,n,c,l,hc,hl,hm,hd⟩:=ie.out j hj3;rw [hd,all_cons l]at hall;have dj:wr.cell? ⟨w.heap.size+1,j,none⟩=some (.slice A n c):=by
   rw [(aj.below Ej.out hb Ej.out.lt).cell j];exact hc
  have ht:decide ((j:Int)<3)=true:=decide_eq_true (by omega);have aW:=qqh (kf.len hl);have HL:=qqh hl;have hn:n≤9223372036854775807:=(by unfold maxLen at hm;omega);clear hl hc hd hm;by_cases h20:20<n
  ·have Od:cj l=5:=(by unfold cj;rw [if_pos (by rw [aW.out];exact h20)]);rw [if_neg (by rw [Od];decide),Od]at hall;have HV:=qqh (show bN s fN=5 by unfold bN;rw [hall];rfl);clear hall Od;go_wp2_with fail;go_ret;rw [HV.out];exact⟨rfl,HB.out.trans (hb.mono HB.out.size)⟩
  have Xr:cj l=lI l:=(by unfold cj;rw [if_neg (by rw [aW.out];exact h20)]);rw [Xr]at hall;have HA:=qqh hall;clear hall Xr;go_wp2_with fail;go_loopw [27] (Uq W l n) (fun i _=>n - (intOf i).toNat);(case atStart=>exact⟨0,Nat.zero_le _,rfl,rfl,hb⟩);clear hb hz;obtain⟨k,hk,rfl,aZ,hb⟩:=hrel;have hz:=hb.size;by_cases hlt:k<n
  ·obtain⟨a,ha⟩:∃ z,l[k]? = some z:=⟨_,List.getElem?_eq_getElem (by rw [aW.out];exact hlt)⟩;rw [cT ha,lI]at aZ;obtain⟨b,off,A',n',c',rfl,ey,d0,d1,d2,d3,yR,hn',_,hnm⟩:=uU HL.out ha;have d0:=(hb.cell (p:=⟨b,off+k*4,none⟩) ey).trans d0;have d1:=(hb.cell (p:=⟨b,off+k*4+1,none⟩) ey).trans d1;have d2:=(hb.cell (p:=⟨b,off+k*4+2,none⟩) ey).trans d2;have d3:=(hb.cell (p:=⟨b,off+k*4+3,none⟩) ey).trans d3;have aT:=fun o=>hb.alloc hz o;have HI:=qqh (fun o=>Ay a A' n' c' (World.alloc _ o) (by unfold maxLen at hn';omega) (Rd.more (Rd.below yR (aT o)) (by simp;omega)));have bJ:=qqh aT;clear yR aT hnm hn';unfold Md at HI;by_cases hi:nO a=0
   ·rw [if_pos hi]at aZ;have HG:=qqh aZ;clear aZ;go_wp2_with fail;refine(HI.out _).mono ?_;rintro e w2 ⟨rfl,aX⟩;rw [hi];have bP:=(bJ.out _).trans (aX.mono (by simp;omega));have bM:=qqh bP;clear aX bP;go_wp2_with fail;exact⟨⟨k+1,by omega,by go_num,HG.out,bM.out⟩,by simp [intOf];omega⟩
   rw [if_neg hi]at aZ;have hi2:(nO a != 0)=true:=(by simpa using hi);have Rk:=HA.out;rw [aZ,if_neg hi]at Rk;have HV:=qqh (show bN s fN=nO a by unfold bN;rw [Rk,if_neg hi]);clear aZ hi Rk;go_wp2_with fail;refine(HI.out _).mono ?_;rintro e w2 ⟨rfl,aX⟩;have bP:=(bJ.out _).trans (aX.mono (by simp;omega));have bM:=qqh bP;clear aX bP;go_wp2_with fail;go_ret;rw [HV.out];exact⟨rfl,HB.out.trans (bM.out.mono HB.out.size)⟩
  obtain rfl:k=n:=(by omega);rw [List.drop_of_length_le (by rw [aW.out];omega)]at aZ;have Rk:=HA.out;rw [aZ,if_pos (show lI [] = 0 from rfl)]at Rk;have HG:=qqh Rk;clear aZ Rk;go_wp2_with fail;exact⟨⟨j+1,by omega,by go_num,HG.out,hb⟩,by simp [intOf];omega⟩
 obtain rfl:j=3:=(by omega);have ha0:fk [s.before,s.source,s.after] = 0:=hall;have iD:=aj.below yz.out hb yz.out.lt;have d3:wr.cell? ⟨w.heap.size,3,none⟩=some (.slice A2 n2 c2):=iD.cell 3;have d5:wr.cell? ⟨w.heap.size,5,none⟩=some (.int .i64 s.af):=iD.cell 5;have hb0:=HB.out.trans (hb.mono HB.out.size);have HS:=qqh (show bN s fN=if s.af < -1∨(n2:Int)<s.af then 3 else if fN=true∧n2=0 then 6 else 0 by unfold bN;rw [if_pos ha0,jc]);clear hall ha0 iD jc;have ep:=qqh hb0;clear hb0;by_cases hc:s.af < -1∨(n2:Int)<s.af
 ·have HV:=qqh (show bN s fN=3 by rw [HS.out,if_pos hc]);rcases (show s.af < -1∨(-1≤s.af∧(n2:Int)<s.af) by omega)with h | ⟨h,h'⟩
  all_goals
    clear hc
    go_wp2_with fail
    go_ret
    rw [HV.out]
    exact⟨rfl,ep.out⟩
 have hc1 : -1≤s.af:=(by omega);have hc2:s.af≤n2:=(by omega);cases hmust:fN
 ·have HV:=qqh (show bN s false=0 by rw [← hmust,HS.out,if_neg hc,hmust];simp);subst hmust;clear hc;go_wp2_with fail;go_ret;rw [HV.out];exact⟨rfl,ep.out⟩
 subst hmust;by_cases h0:n2=0
 ·have HV:=qqh (show bN s true=6 by rw [HS.out,if_neg hc,h0];simp);have tr:((n2:Int) == 0)=true:=(by simp;omega);clear hc;go_wp2_with fail;go_ret;rw [HV.out];exact⟨rfl,ep.out⟩
 have HV:=qqh (show bN s true=0 by rw [HS.out,if_neg hc];simp [h0]);have tr:((n2:Int) == 0)=false:=(by simp;omega);clear hc;go_wp2_with fail;go_ret;rw [HV.out];exact⟨rfl,ep.out⟩
def uf (dir:Int) (left right:bV):Bool :=
  (dir == 2 || gw right.source) && (dir == 1 || gw left.source) && (dir != 1 || (!nw right && decide (left.af<0))) && (dir != 2 || (!nw left && decide (right.af<0)))
def cK (dir:Int) (left right:bV):Int :=
  if dir<1∨3<dir then 1
  else if bN left (dir != 2)=0 then (if bN right (dir != 1)=0 then (if uf dir left right=true then 0 else 8)else bN right (dir != 1))
  else bN left (dir != 2)
def gM (p:aG):Int :=
  if p.kind=1 then (if ec p.name=true then bA p.set else 7)
  else if p.kind=3 then bA p.set
  else if p.kind=4 then (if jR p.name=true then 0 else 7)
  else if p.kind=2 then cK p.dir p.left p.right
  else 1
theorem J6 {s:bV} (h:fk [s.before,s.source,s.after] = 0):s.before.length≤20∧s.source.length≤20∧s.after.length≤20:=by
 simp only [fk]at h;by_cases h1:cj s.before=0
 ·rw [if_pos h1]at h;by_cases h2:cj s.source=0
  ·rw [if_pos h2]at h;by_cases h3:cj s.after=0;exact⟨lF h1,lF h2,lF h3⟩;rw [if_neg h3]at h;exact absurd h h3
  rw [if_neg h2]at h;exact absurd h h2
 rw [if_neg h1]at h;exact absurd h h1
theorem dK {s:bV} {fN:Bool} (h:bN s fN=0):s.before.length≤20∧s.source.length≤20∧s.after.length≤20:=by
 unfold bN at h;by_cases h1:fk [s.before,s.source,s.after] = 0;exact J6 h1;rw [if_neg h1]at h;exact absurd h h1
theorem E5 (name:ByteArray) (left right:bV) (A:Option Addr) (n c:Nat) (L1 L2 L3 R1 R2 R3:Option Addr) (a1 a2 a3 x1 x2 x3 b1 b2 b3 y1 y2 y3:Nat) (w:World) (l1:bO w w.heap.size L1 a1 left.before) (l2:bO w w.heap.size L2 a2 left.source) (l3:bO w w.heap.size L3 a3 left.after) (Bm:a1≤maxLen) (xS:a2≤maxLen) (Bq:a3≤maxLen) (r1:bO w w.heap.size R1 b1 right.before) (r2:bO w w.heap.size R2 b2 right.source) (r3:bO w w.heap.size R3 b3 right.after) (Bp:b1≤maxLen) (x7:b2≤maxLen) (AA:b3≤maxLen) :
    Calls Tryz.prog 60 #[.agg #[.int .i64 2,.string name,.slice A n c,.int .i64 1,.bool left.start,.bool left.fin,.slice L1 a1 x1,.slice L2 a2 x2,.slice L3 a3 x3,.int .i64 left.af,.bool right.start,.bool right.fin,.slice R1 b1 y1,.slice R2 b2 y2,.slice R3 b3 y3,.int .i64 right.af]] w fun e w'=>e=.returned (.int .i64 (cK 1 left right))∧Below w.heap.size w w':=by
 have SL:=qqh (fun w' (hb:Below w.heap.size w w') fN=>gD left fN L1 L2 L3 a1 a2 a3 x1 x2 x3 w' (aL l1 hb) (aL l2 hb) (aL l3 hb) Bm xS Bq);have TL:=qqh (fun w' (hb:Below w.heap.size w w')=>gG left L1 L2 L3 a1 a2 a3 x1 x2 x3 w' (aL l2 hb) xS);have BL:=qqh (fun w' fN (h0:bN left fN=0)=>gF left L1 L2 L3 a1 a2 a3 x1 x2 x3 w' (kf.len l1) (kf.len l3) (by rw [← kf.len l1];exact(dK h0).1) (by rw [← kf.len l3];exact(dK h0).2.2));have SR:=qqh (fun w' (hb:Below w.heap.size w w') fN=>gD right fN R1 R2 R3 b1 b2 b3 y1 y2 y3 w' (aL r1 hb) (aL r2 hb) (aL r3 hb) Bp x7 AA);have TR:=qqh (fun w' (hb:Below w.heap.size w w')=>gG right R1 R2 R3 b1 b2 b3 y1 y2 y3 w' (aL r2 hb) x7);have BR:=qqh (fun w' fN (h0:bN right fN=0)=>gF right R1 R2 R3 b1 b2 b3 y1 y2 y3 w' (kf.len r1) (kf.len r3) (by rw [← kf.len r1];exact(dK h0).1) (by rw [← kf.len r3];exact(dK h0).2.2));clear l1 l2 l3 r1 r2 r3 Bm xS Bq Bp x7 AA;have ep:=qqh ((Below.refl w.heap.size w).alloc qql (.cells #[.int .i64 2,.string name,.slice A n c,.int .i64 1,.bool left.start,.bool left.fin,.slice L1 a1 x1,.slice L2 a2 x2,.slice L3 a3 x3,.int .i64 left.af,.bool right.start,.bool right.fin,.slice R1 b1 y1,.slice R2 b2 y2,.slice R3 b3 y3,.int .i64 right.af] 86));have gU:=qqh (aj.new w 86 #[.int .i64 2,.string name,.slice A n c,.int .i64 1,.bool left.start,.bool left.fin,.slice L1 a1 x1,.slice L2 a2 x2,.slice L3 a3 x3,.int .i64 left.af,.bool right.start,.bool right.fin,.slice R1 b1 y1,.slice R2 b2 y2,.slice R3 b3 y3,.int .i64 right.af]);go_enter Tryz.func60,Tryz.ntmps60;go_wp2_with fail
 generalize w.alloc (.cells #[.int .i64 2,.string name,.slice A n c,.int .i64 1,.bool left.start,.bool left.fin,.slice L1 a1 x1,.slice L2 a2 x2,.slice L3 a3 x3,.int .i64 left.af,.bool right.start,.bool right.fin,.slice R1 b1 y1,.slice R2 b2 y2,.slice R3 b3 y3,.int .i64 right.af] 86)=W0 at *;have c0:W0.cell? ⟨w.heap.size,0,none⟩=some (.int .i64 2):=gU.out.cell 0;have c3:W0.cell? ⟨w.heap.size,3,none⟩=some (.int .i64 1):=gU.out.cell 3;have c4:W0.cell? ⟨w.heap.size,4,none⟩=some (.bool left.start):=gU.out.cell 4;have c5:W0.cell? ⟨w.heap.size,5,none⟩=some (.bool left.fin):=gU.out.cell 5;have c6:W0.cell? ⟨w.heap.size,6,none⟩=some (.slice L1 a1 x1):=gU.out.cell 6;have c7:W0.cell? ⟨w.heap.size,7,none⟩=some (.slice L2 a2 x2):=gU.out.cell 7;have c8:W0.cell? ⟨w.heap.size,8,none⟩=some (.slice L3 a3 x3):=gU.out.cell 8;have c9:W0.cell? ⟨w.heap.size,9,none⟩=some (.int .i64 left.af):=gU.out.cell 9;have c10:W0.cell? ⟨w.heap.size,10,none⟩=some (.bool right.start):=gU.out.cell 10;have c11:W0.cell? ⟨w.heap.size,11,none⟩=some (.bool right.fin):=gU.out.cell 11;have c12:W0.cell? ⟨w.heap.size,12,none⟩=some (.slice R1 b1 y1):=gU.out.cell 12;have c13:W0.cell? ⟨w.heap.size,13,none⟩=some (.slice R2 b2 y2):=gU.out.cell 13;have c14:W0.cell? ⟨w.heap.size,14,none⟩=some (.slice R3 b3 y3):=gU.out.cell 14;have c15:W0.cell? ⟨w.heap.size,15,none⟩=some (.int .i64 right.af):=gU.out.cell 15;go_quiet (fail);go_wp2_with fail;refine(SL.out _ (below_drewN ep.out _) true).mono ?_;rintro e w1 ⟨rfl,hb⟩;have qK:=qqh (ep.out.trans (Below.trans (below_drewN qqb _) (hb.mono (by exact qql)) |>.mono ep.out.size));have jz:=qqh (aj.below (aj.drewN gU.out _) hb gU.out.lt);clear hb;have d10:w1.cell? ⟨w.heap.size,10,none⟩=some (.bool right.start):=jz.out.cell 10
 have d11:w1.cell? ⟨w.heap.size,11,none⟩=some (.bool right.fin):=jz.out.cell 11;have d12:w1.cell? ⟨w.heap.size,12,none⟩=some (.slice R1 b1 y1):=jz.out.cell 12;have d13:w1.cell? ⟨w.heap.size,13,none⟩=some (.slice R2 b2 y2):=jz.out.cell 13;have d14:w1.cell? ⟨w.heap.size,14,none⟩=some (.slice R3 b3 y3):=jz.out.cell 14;have d15:w1.cell? ⟨w.heap.size,15,none⟩=some (.int .i64 right.af):=jz.out.cell 15;by_cases e1:bN left true=0
 ·have WM:(bN left true != 0)=false:=(by simp [e1]);go_wp2_with fail;refine(SR.out w1 qK.out false).mono ?_;rintro e w2 ⟨rfl,hb⟩;have jD:=qqh (aj.below jz.out hb jz.out.lt);have qN:=qqh (qK.out.trans (hb.mono qK.out.size));clear hb;have d10:w2.cell? ⟨w.heap.size,10,none⟩=some (.bool right.start):=jD.out.cell 10;have d11:w2.cell? ⟨w.heap.size,11,none⟩=some (.bool right.fin):=jD.out.cell 11;have d12:w2.cell? ⟨w.heap.size,12,none⟩=some (.slice R1 b1 y1):=jD.out.cell 12;have d13:w2.cell? ⟨w.heap.size,13,none⟩=some (.slice R2 b2 y2):=jD.out.cell 13;have d14:w2.cell? ⟨w.heap.size,14,none⟩=some (.slice R3 b3 y3):=jD.out.cell 14;have d15:w2.cell? ⟨w.heap.size,15,none⟩=some (.int .i64 right.af):=jD.out.cell 15;by_cases e2:bN right false=0
  ·have XV:(bN right false != 0)=false:=(by simp [e2]);go_wp2_with fail;refine(TR.out w2 qN.out).mono ?_;rintro e w3 ⟨rfl,hb⟩;have jr:=qqh (aj.below jD.out hb jD.out.lt);have tZ:=qqh (qN.out.trans (hb.mono qN.out.size));clear hb;have d10:w3.cell? ⟨w.heap.size,10,none⟩=some (.bool right.start):=jr.out.cell 10;have d11:w3.cell? ⟨w.heap.size,11,none⟩=some (.bool right.fin):=jr.out.cell 11;have d12:w3.cell? ⟨w.heap.size,12,none⟩=some (.slice R1 b1 y1):=jr.out.cell 12;have d13:w3.cell? ⟨w.heap.size,13,none⟩=some (.slice R2 b2 y2):=jr.out.cell 13;have d14:w3.cell? ⟨w.heap.size,14,none⟩=some (.slice R3 b3 y3):=jr.out.cell 14;have d15:w3.cell? ⟨w.heap.size,15,none⟩=some (.int .i64 right.af):=jr.out.cell 15;cases hp:gw right.source
   ·have HV:=qqh (show cK 1 left right=8 by simp [cK,uf,e1,e2,hp]);clear e1 e2 hp;go_wp2_with fail;go_ret;rw [HV.out];exact⟨rfl,tZ.out⟩
   go_wp2_with fail;refine(BR.out w3 false e2).mono ?_;rintro e w4 ⟨rfl,hb⟩;have PI:=qqh (aj.below jr.out hb jr.out.lt);have yL:=qqh (tZ.out.trans (hb.mono tZ.out.size));clear hb;have d9:w4.cell? ⟨w.heap.size,9,none⟩=some (.int .i64 left.af):=PI.out.cell 9;cases ha:nw right
   ·by_cases xy:left.af<0
    ·have HV:=qqh (show cK 1 left right=0 by simp [cK,uf,e1,e2,hp,ha,xy]);clear e1 e2 hp ha;go_wp2_with fail;go_ret;rw [HV.out];exact⟨rfl,yL.out⟩
    have HV:=qqh (show cK 1 left right=8 by simp [cK,uf,e1,e2,hp,ha,xy]);clear e1 e2 hp ha;go_wp2_with fail;go_ret;rw [HV.out];exact⟨rfl,yL.out⟩
   have HV:=qqh (show cK 1 left right=8 by simp [cK,uf,e1,e2,hp,ha]);clear e1 e2 hp ha;go_wp2_with fail;go_ret;rw [HV.out];exact⟨rfl,yL.out⟩
  have XV:(bN right false != 0)=true:=(by simpa using e2);have HV:=qqh (show cK 1 left right=bN right false by simp [cK,e1,e2]);clear e1 e2;go_wp2_with fail;go_ret;rw [HV.out];exact⟨rfl,qN.out⟩
 have WM:(bN left true != 0)=true:=(by simpa using e1);have HV:=qqh (show cK 1 left right=bN left true by simp [cK,e1]);clear e1;go_wp2_with fail;go_ret;rw [HV.out];exact⟨rfl,qK.out⟩
theorem FA (name:ByteArray) (left right:bV) (A:Option Addr) (n c:Nat) (L1 L2 L3 R1 R2 R3:Option Addr) (a1 a2 a3 x1 x2 x3 b1 b2 b3 y1 y2 y3:Nat) (w:World) (l1:bO w w.heap.size L1 a1 left.before) (l2:bO w w.heap.size L2 a2 left.source) (l3:bO w w.heap.size L3 a3 left.after) (Bm:a1≤maxLen) (xS:a2≤maxLen) (Bq:a3≤maxLen) (r1:bO w w.heap.size R1 b1 right.before) (r2:bO w w.heap.size R2 b2 right.source) (r3:bO w w.heap.size R3 b3 right.after) (Bp:b1≤maxLen) (x7:b2≤maxLen) (AA:b3≤maxLen) :
    Calls Tryz.prog 60 #[.agg #[.int .i64 2,.string name,.slice A n c,.int .i64 2,.bool left.start,.bool left.fin,.slice L1 a1 x1,.slice L2 a2 x2,.slice L3 a3 x3,.int .i64 left.af,.bool right.start,.bool right.fin,.slice R1 b1 y1,.slice R2 b2 y2,.slice R3 b3 y3,.int .i64 right.af]] w fun e w'=>e=.returned (.int .i64 (cK 2 left right))∧Below w.heap.size w w':=by
 have SL:=qqh (fun w' (hb:Below w.heap.size w w') fN=>gD left fN L1 L2 L3 a1 a2 a3 x1 x2 x3 w' (aL l1 hb) (aL l2 hb) (aL l3 hb) Bm xS Bq);have TL:=qqh (fun w' (hb:Below w.heap.size w w')=>gG left L1 L2 L3 a1 a2 a3 x1 x2 x3 w' (aL l2 hb) xS);have BL:=qqh (fun w' fN (h0:bN left fN=0)=>gF left L1 L2 L3 a1 a2 a3 x1 x2 x3 w' (kf.len l1) (kf.len l3) (by rw [← kf.len l1];exact(dK h0).1) (by rw [← kf.len l3];exact(dK h0).2.2));have SR:=qqh (fun w' (hb:Below w.heap.size w w') fN=>gD right fN R1 R2 R3 b1 b2 b3 y1 y2 y3 w' (aL r1 hb) (aL r2 hb) (aL r3 hb) Bp x7 AA);have TR:=qqh (fun w' (hb:Below w.heap.size w w')=>gG right R1 R2 R3 b1 b2 b3 y1 y2 y3 w' (aL r2 hb) x7);have BR:=qqh (fun w' fN (h0:bN right fN=0)=>gF right R1 R2 R3 b1 b2 b3 y1 y2 y3 w' (kf.len r1) (kf.len r3) (by rw [← kf.len r1];exact(dK h0).1) (by rw [← kf.len r3];exact(dK h0).2.2));clear l1 l2 l3 r1 r2 r3 Bm xS Bq Bp x7 AA;have ep:=qqh ((Below.refl w.heap.size w).alloc qql (.cells #[.int .i64 2,.string name,.slice A n c,.int .i64 2,.bool left.start,.bool left.fin,.slice L1 a1 x1,.slice L2 a2 x2,.slice L3 a3 x3,.int .i64 left.af,.bool right.start,.bool right.fin,.slice R1 b1 y1,.slice R2 b2 y2,.slice R3 b3 y3,.int .i64 right.af] 86));have gU:=qqh (aj.new w 86 #[.int .i64 2,.string name,.slice A n c,.int .i64 2,.bool left.start,.bool left.fin,.slice L1 a1 x1,.slice L2 a2 x2,.slice L3 a3 x3,.int .i64 left.af,.bool right.start,.bool right.fin,.slice R1 b1 y1,.slice R2 b2 y2,.slice R3 b3 y3,.int .i64 right.af]);go_enter Tryz.func60,Tryz.ntmps60;go_wp2_with fail
 generalize w.alloc (.cells #[.int .i64 2,.string name,.slice A n c,.int .i64 2,.bool left.start,.bool left.fin,.slice L1 a1 x1,.slice L2 a2 x2,.slice L3 a3 x3,.int .i64 left.af,.bool right.start,.bool right.fin,.slice R1 b1 y1,.slice R2 b2 y2,.slice R3 b3 y3,.int .i64 right.af] 86)=W0 at *;have c0:W0.cell? ⟨w.heap.size,0,none⟩=some (.int .i64 2):=gU.out.cell 0;have c3:W0.cell? ⟨w.heap.size,3,none⟩=some (.int .i64 2):=gU.out.cell 3;have c4:W0.cell? ⟨w.heap.size,4,none⟩=some (.bool left.start):=gU.out.cell 4;have c5:W0.cell? ⟨w.heap.size,5,none⟩=some (.bool left.fin):=gU.out.cell 5;have c6:W0.cell? ⟨w.heap.size,6,none⟩=some (.slice L1 a1 x1):=gU.out.cell 6;have c7:W0.cell? ⟨w.heap.size,7,none⟩=some (.slice L2 a2 x2):=gU.out.cell 7;have c8:W0.cell? ⟨w.heap.size,8,none⟩=some (.slice L3 a3 x3):=gU.out.cell 8;have c9:W0.cell? ⟨w.heap.size,9,none⟩=some (.int .i64 left.af):=gU.out.cell 9;have c10:W0.cell? ⟨w.heap.size,10,none⟩=some (.bool right.start):=gU.out.cell 10;have c11:W0.cell? ⟨w.heap.size,11,none⟩=some (.bool right.fin):=gU.out.cell 11;have c12:W0.cell? ⟨w.heap.size,12,none⟩=some (.slice R1 b1 y1):=gU.out.cell 12;have c13:W0.cell? ⟨w.heap.size,13,none⟩=some (.slice R2 b2 y2):=gU.out.cell 13;have c14:W0.cell? ⟨w.heap.size,14,none⟩=some (.slice R3 b3 y3):=gU.out.cell 14;have c15:W0.cell? ⟨w.heap.size,15,none⟩=some (.int .i64 right.af):=gU.out.cell 15;go_quiet (fail);go_wp2_with fail;refine(SL.out _ (below_drewN ep.out _) false).mono ?_;rintro e w1 ⟨rfl,hb⟩;have qK:=qqh (ep.out.trans (Below.trans (below_drewN qqb _) (hb.mono (by exact qql)) |>.mono ep.out.size));have jz:=qqh (aj.below (aj.drewN gU.out _) hb gU.out.lt);clear hb;have d10:w1.cell? ⟨w.heap.size,10,none⟩=some (.bool right.start):=jz.out.cell 10
 have d11:w1.cell? ⟨w.heap.size,11,none⟩=some (.bool right.fin):=jz.out.cell 11;have d12:w1.cell? ⟨w.heap.size,12,none⟩=some (.slice R1 b1 y1):=jz.out.cell 12;have d13:w1.cell? ⟨w.heap.size,13,none⟩=some (.slice R2 b2 y2):=jz.out.cell 13;have d14:w1.cell? ⟨w.heap.size,14,none⟩=some (.slice R3 b3 y3):=jz.out.cell 14;have d15:w1.cell? ⟨w.heap.size,15,none⟩=some (.int .i64 right.af):=jz.out.cell 15;by_cases e1:bN left false=0
 ·have WM:(bN left false != 0)=false:=(by simp [e1]);go_wp2_with fail;refine(SR.out w1 qK.out true).mono ?_;rintro e w2 ⟨rfl,hb⟩;have jD:=qqh (aj.below jz.out hb jz.out.lt);have qN:=qqh (qK.out.trans (hb.mono qK.out.size));clear hb;have d4:w2.cell? ⟨w.heap.size,4,none⟩=some (.bool left.start):=jD.out.cell 4;have d5:w2.cell? ⟨w.heap.size,5,none⟩=some (.bool left.fin):=jD.out.cell 5;have d6:w2.cell? ⟨w.heap.size,6,none⟩=some (.slice L1 a1 x1):=jD.out.cell 6;have d7:w2.cell? ⟨w.heap.size,7,none⟩=some (.slice L2 a2 x2):=jD.out.cell 7;have d8:w2.cell? ⟨w.heap.size,8,none⟩=some (.slice L3 a3 x3):=jD.out.cell 8;have d9:w2.cell? ⟨w.heap.size,9,none⟩=some (.int .i64 left.af):=jD.out.cell 9;by_cases e2:bN right true=0
  ·have XV:(bN right true != 0)=false:=(by simp [e2]);go_wp2_with fail;refine(TL.out w2 qN.out).mono ?_;rintro e w3 ⟨rfl,hb⟩;have jr:=qqh (aj.below jD.out hb jD.out.lt);have tZ:=qqh (qN.out.trans (hb.mono qN.out.size));clear hb;have d4:w3.cell? ⟨w.heap.size,4,none⟩=some (.bool left.start):=jr.out.cell 4;have d5:w3.cell? ⟨w.heap.size,5,none⟩=some (.bool left.fin):=jr.out.cell 5;have d6:w3.cell? ⟨w.heap.size,6,none⟩=some (.slice L1 a1 x1):=jr.out.cell 6;have d7:w3.cell? ⟨w.heap.size,7,none⟩=some (.slice L2 a2 x2):=jr.out.cell 7;have d8:w3.cell? ⟨w.heap.size,8,none⟩=some (.slice L3 a3 x3):=jr.out.cell 8;have d9:w3.cell? ⟨w.heap.size,9,none⟩=some (.int .i64 left.af):=jr.out.cell 9;cases hp:gw left.source
   ·have HV:=qqh (show cK 2 left right=8 by simp [cK,uf,e1,e2,hp]);clear e1 e2 hp;go_wp2_with fail;go_ret;rw [HV.out];exact⟨rfl,tZ.out⟩
   go_wp2_with fail;refine(BL.out w3 false e1).mono ?_;rintro e w4 ⟨rfl,hb⟩;have PI:=qqh (aj.below jr.out hb jr.out.lt);have yL:=qqh (tZ.out.trans (hb.mono tZ.out.size));clear hb;have d15:w4.cell? ⟨w.heap.size,15,none⟩=some (.int .i64 right.af):=PI.out.cell 15;cases ha:nw left
   ·by_cases xy:right.af<0
    ·have HV:=qqh (show cK 2 left right=0 by simp [cK,uf,e1,e2,hp,ha,xy]);clear e1 e2 hp ha;go_wp2_with fail;go_ret;rw [HV.out];exact⟨rfl,yL.out⟩
    have HV:=qqh (show cK 2 left right=8 by simp [cK,uf,e1,e2,hp,ha,xy]);clear e1 e2 hp ha;go_wp2_with fail;go_ret;rw [HV.out];exact⟨rfl,yL.out⟩
   have HV:=qqh (show cK 2 left right=8 by simp [cK,uf,e1,e2,hp,ha]);clear e1 e2 hp ha;go_wp2_with fail;go_ret;rw [HV.out];exact⟨rfl,yL.out⟩
  have XV:(bN right true != 0)=true:=(by simpa using e2);have HV:=qqh (show cK 2 left right=bN right true by simp [cK,e1,e2]);clear e1 e2;go_wp2_with fail;go_ret;rw [HV.out];exact⟨rfl,qN.out⟩
 have WM:(bN left false != 0)=true:=(by simpa using e1);have HV:=qqh (show cK 2 left right=bN left false by simp [cK,e1]);clear e1;go_wp2_with fail;go_ret;rw [HV.out];exact⟨rfl,qK.out⟩
theorem Ew (name:ByteArray) (left right:bV) (A:Option Addr) (n c:Nat) (L1 L2 L3 R1 R2 R3:Option Addr) (a1 a2 a3 x1 x2 x3 b1 b2 b3 y1 y2 y3:Nat) (w:World) (l1:bO w w.heap.size L1 a1 left.before) (l2:bO w w.heap.size L2 a2 left.source) (l3:bO w w.heap.size L3 a3 left.after) (Bm:a1≤maxLen) (xS:a2≤maxLen) (Bq:a3≤maxLen) (r1:bO w w.heap.size R1 b1 right.before) (r2:bO w w.heap.size R2 b2 right.source) (r3:bO w w.heap.size R3 b3 right.after) (Bp:b1≤maxLen) (x7:b2≤maxLen) (AA:b3≤maxLen) :
    Calls Tryz.prog 60 #[.agg #[.int .i64 2,.string name,.slice A n c,.int .i64 3,.bool left.start,.bool left.fin,.slice L1 a1 x1,.slice L2 a2 x2,.slice L3 a3 x3,.int .i64 left.af,.bool right.start,.bool right.fin,.slice R1 b1 y1,.slice R2 b2 y2,.slice R3 b3 y3,.int .i64 right.af]] w fun e w'=>e=.returned (.int .i64 (cK 3 left right))∧Below w.heap.size w w':=by
 have SL:=qqh (fun w' (hb:Below w.heap.size w w') fN=>gD left fN L1 L2 L3 a1 a2 a3 x1 x2 x3 w' (aL l1 hb) (aL l2 hb) (aL l3 hb) Bm xS Bq);have TL:=qqh (fun w' (hb:Below w.heap.size w w')=>gG left L1 L2 L3 a1 a2 a3 x1 x2 x3 w' (aL l2 hb) xS);have BL:=qqh (fun w' fN (h0:bN left fN=0)=>gF left L1 L2 L3 a1 a2 a3 x1 x2 x3 w' (kf.len l1) (kf.len l3) (by rw [← kf.len l1];exact(dK h0).1) (by rw [← kf.len l3];exact(dK h0).2.2));have SR:=qqh (fun w' (hb:Below w.heap.size w w') fN=>gD right fN R1 R2 R3 b1 b2 b3 y1 y2 y3 w' (aL r1 hb) (aL r2 hb) (aL r3 hb) Bp x7 AA);have TR:=qqh (fun w' (hb:Below w.heap.size w w')=>gG right R1 R2 R3 b1 b2 b3 y1 y2 y3 w' (aL r2 hb) x7);have BR:=qqh (fun w' fN (h0:bN right fN=0)=>gF right R1 R2 R3 b1 b2 b3 y1 y2 y3 w' (kf.len r1) (kf.len r3) (by rw [← kf.len r1];exact(dK h0).1) (by rw [← kf.len r3];exact(dK h0).2.2));clear l1 l2 l3 r1 r2 r3 Bm xS Bq Bp x7 AA;have ep:=qqh ((Below.refl w.heap.size w).alloc qql (.cells #[.int .i64 2,.string name,.slice A n c,.int .i64 3,.bool left.start,.bool left.fin,.slice L1 a1 x1,.slice L2 a2 x2,.slice L3 a3 x3,.int .i64 left.af,.bool right.start,.bool right.fin,.slice R1 b1 y1,.slice R2 b2 y2,.slice R3 b3 y3,.int .i64 right.af] 86));have gU:=qqh (aj.new w 86 #[.int .i64 2,.string name,.slice A n c,.int .i64 3,.bool left.start,.bool left.fin,.slice L1 a1 x1,.slice L2 a2 x2,.slice L3 a3 x3,.int .i64 left.af,.bool right.start,.bool right.fin,.slice R1 b1 y1,.slice R2 b2 y2,.slice R3 b3 y3,.int .i64 right.af]);go_enter Tryz.func60,Tryz.ntmps60;go_wp2_with fail
 generalize w.alloc (.cells #[.int .i64 2,.string name,.slice A n c,.int .i64 3,.bool left.start,.bool left.fin,.slice L1 a1 x1,.slice L2 a2 x2,.slice L3 a3 x3,.int .i64 left.af,.bool right.start,.bool right.fin,.slice R1 b1 y1,.slice R2 b2 y2,.slice R3 b3 y3,.int .i64 right.af] 86)=W0 at *;have c0:W0.cell? ⟨w.heap.size,0,none⟩=some (.int .i64 2):=gU.out.cell 0;have c3:W0.cell? ⟨w.heap.size,3,none⟩=some (.int .i64 3):=gU.out.cell 3;have c4:W0.cell? ⟨w.heap.size,4,none⟩=some (.bool left.start):=gU.out.cell 4;have c5:W0.cell? ⟨w.heap.size,5,none⟩=some (.bool left.fin):=gU.out.cell 5;have c6:W0.cell? ⟨w.heap.size,6,none⟩=some (.slice L1 a1 x1):=gU.out.cell 6;have c7:W0.cell? ⟨w.heap.size,7,none⟩=some (.slice L2 a2 x2):=gU.out.cell 7;have c8:W0.cell? ⟨w.heap.size,8,none⟩=some (.slice L3 a3 x3):=gU.out.cell 8;have c9:W0.cell? ⟨w.heap.size,9,none⟩=some (.int .i64 left.af):=gU.out.cell 9;have c10:W0.cell? ⟨w.heap.size,10,none⟩=some (.bool right.start):=gU.out.cell 10;have c11:W0.cell? ⟨w.heap.size,11,none⟩=some (.bool right.fin):=gU.out.cell 11;have c12:W0.cell? ⟨w.heap.size,12,none⟩=some (.slice R1 b1 y1):=gU.out.cell 12;have c13:W0.cell? ⟨w.heap.size,13,none⟩=some (.slice R2 b2 y2):=gU.out.cell 13;have c14:W0.cell? ⟨w.heap.size,14,none⟩=some (.slice R3 b3 y3):=gU.out.cell 14;have c15:W0.cell? ⟨w.heap.size,15,none⟩=some (.int .i64 right.af):=gU.out.cell 15;go_quiet (fail);go_wp2_with fail;refine(SL.out _ (below_drewN ep.out _) true).mono ?_;rintro e w1 ⟨rfl,hb⟩;have qK:=qqh (ep.out.trans (Below.trans (below_drewN qqb _) (hb.mono (by exact qql)) |>.mono ep.out.size));have jz:=qqh (aj.below (aj.drewN gU.out _) hb gU.out.lt);clear hb;have d10:w1.cell? ⟨w.heap.size,10,none⟩=some (.bool right.start):=jz.out.cell 10
 have d11:w1.cell? ⟨w.heap.size,11,none⟩=some (.bool right.fin):=jz.out.cell 11;have d12:w1.cell? ⟨w.heap.size,12,none⟩=some (.slice R1 b1 y1):=jz.out.cell 12;have d13:w1.cell? ⟨w.heap.size,13,none⟩=some (.slice R2 b2 y2):=jz.out.cell 13;have d14:w1.cell? ⟨w.heap.size,14,none⟩=some (.slice R3 b3 y3):=jz.out.cell 14;have d15:w1.cell? ⟨w.heap.size,15,none⟩=some (.int .i64 right.af):=jz.out.cell 15;by_cases e1:bN left true=0
 ·have WM:(bN left true != 0)=false:=(by simp [e1]);go_wp2_with fail;refine(SR.out w1 qK.out true).mono ?_;rintro e w2 ⟨rfl,hb⟩;have jD:=qqh (aj.below jz.out hb jz.out.lt);have qN:=qqh (qK.out.trans (hb.mono qK.out.size));clear hb;have d10:w2.cell? ⟨w.heap.size,10,none⟩=some (.bool right.start):=jD.out.cell 10;have d11:w2.cell? ⟨w.heap.size,11,none⟩=some (.bool right.fin):=jD.out.cell 11;have d12:w2.cell? ⟨w.heap.size,12,none⟩=some (.slice R1 b1 y1):=jD.out.cell 12;have d13:w2.cell? ⟨w.heap.size,13,none⟩=some (.slice R2 b2 y2):=jD.out.cell 13;have d14:w2.cell? ⟨w.heap.size,14,none⟩=some (.slice R3 b3 y3):=jD.out.cell 14;have d15:w2.cell? ⟨w.heap.size,15,none⟩=some (.int .i64 right.af):=jD.out.cell 15;by_cases e2:bN right true=0
  ·have XV:(bN right true != 0)=false:=(by simp [e2]);go_wp2_with fail;refine(TR.out w2 qN.out).mono ?_;rintro e w3 ⟨rfl,hb⟩;have jr:=qqh (aj.below jD.out hb jD.out.lt);have tZ:=qqh (qN.out.trans (hb.mono qN.out.size));clear hb;have d4:w3.cell? ⟨w.heap.size,4,none⟩=some (.bool left.start):=jr.out.cell 4;have d5:w3.cell? ⟨w.heap.size,5,none⟩=some (.bool left.fin):=jr.out.cell 5;have d6:w3.cell? ⟨w.heap.size,6,none⟩=some (.slice L1 a1 x1):=jr.out.cell 6;have d7:w3.cell? ⟨w.heap.size,7,none⟩=some (.slice L2 a2 x2):=jr.out.cell 7;have d8:w3.cell? ⟨w.heap.size,8,none⟩=some (.slice L3 a3 x3):=jr.out.cell 8;have d9:w3.cell? ⟨w.heap.size,9,none⟩=some (.int .i64 left.af):=jr.out.cell 9;cases hp:gw right.source
   ·have HV:=qqh (show cK 3 left right=8 by simp [cK,uf,e1,e2,hp]);clear e1 e2 hp;go_wp2_with fail;go_ret;rw [HV.out];exact⟨rfl,tZ.out⟩
   go_wp2_with fail;refine(TL.out w3 tZ.out).mono ?_;rintro e w4 ⟨rfl,hb⟩;have PI:=qqh (aj.below jr.out hb jr.out.lt);have yL:=qqh (tZ.out.trans (hb.mono tZ.out.size));clear hb;cases hq:gw left.source
   ·have HV:=qqh (show cK 3 left right=8 by simp [cK,uf,e1,e2,hp,hq]);clear e1 e2 hp hq;go_wp2_with fail;go_ret;rw [HV.out];exact⟨rfl,yL.out⟩
   have HV:=qqh (show cK 3 left right=0 by simp [cK,uf,e1,e2,hp,hq]);clear e1 e2 hp hq;go_wp2_with fail;go_ret;rw [HV.out];exact⟨rfl,yL.out⟩
  have XV:(bN right true != 0)=true:=(by simpa using e2);have HV:=qqh (show cK 3 left right=bN right true by simp [cK,e1,e2]);clear e1 e2;go_wp2_with fail;go_ret;rw [HV.out];exact⟨rfl,qN.out⟩
 have WM:(bN left true != 0)=true:=(by simpa using e1);have HV:=qqh (show cK 3 left right=bN left true by simp [cK,e1]);clear e1;go_wp2_with fail;go_ret;rw [HV.out];exact⟨rfl,qK.out⟩
theorem Mi (name:ByteArray) (left right:bV) (dir:Int) (A:Option Addr) (n c:Nat) (L1 L2 L3 R1 R2 R3:Option Addr) (a1 a2 a3 x1 x2 x3 b1 b2 b3 y1 y2 y3:Nat) (w:World) (h:dir<1∨3<dir) :
    Calls Tryz.prog 60 #[.agg #[.int .i64 2,.string name,.slice A n c,.int .i64 dir,.bool left.start,.bool left.fin,.slice L1 a1 x1,.slice L2 a2 x2,.slice L3 a3 x3,.int .i64 left.af,.bool right.start,.bool right.fin,.slice R1 b1 y1,.slice R2 b2 y2,.slice R3 b3 y3,.int .i64 right.af]] w fun e w'=>e=.returned (.int .i64 1)∧Below w.heap.size w w':=by
 have HB:=qqh ((Below.refl w.heap.size w).alloc qql (.cells #[.int .i64 2,.string name,.slice A n c,.int .i64 dir,.bool left.start,.bool left.fin,.slice L1 a1 x1,.slice L2 a2 x2,.slice L3 a3 x3,.int .i64 left.af,.bool right.start,.bool right.fin,.slice R1 b1 y1,.slice R2 b2 y2,.slice R3 b3 y3,.int .i64 right.af] 86));rcases h with h | h
 all_goals
   go_enter Tryz.func60,Tryz.ntmps60
   go_wp2_with fail
   go_ret
   exact⟨rfl,HB.out⟩
end Go.Proofs.YtblinekbpcdbfaaGreatDoor
