/- Parts + Item + Items + Side + SideMore + Told + SideWalk + PartP + PartRule -/
import Derived.Test.YtkggjgeihhialaaGreatDoorZs4
import Derived.Test.YtkggjgeihhialaaGreatDoorZs9
import Derived.Test.YtkggjgeihhialaaGreatDoorZs3
import Derived.Test.YtkggjgeihhialaaGreatDoorZs6
import Derived.Deep.QuietTactic
import Derived.BigQuiet
set_option maxHeartbeats 3200000
set_option maxRecDepth 100000
namespace Go.Proofs.YtkggjgeihhialaaGreatDoor
open Go.RowKit Go.ChangeShapes Go.WideShapes Go.ChangeAt
def jR {α:Type} (R:α→List Value→Prop) (w:World) (B sz:Nat) (A:Option Addr) (n:Nat) (l:List α):Prop :=
  ∃ css:List (List Value),l.length=n∧css.length=n∧(∀ (i:Nat) (a:α) (cs:List Value),l[i]? = some a→css[i]? = some cs→R a cs)∧(∀ cs∈css,cs.length=sz)∧Rd w B sz A n css.flatten
theorem jR.len {α:Type} {R:α→List Value→Prop} {w:World} {B sz n:Nat} {A:Option Addr} {l:List α} (h:jR R w B sz A n l):l.length=n:=by
 obtain⟨_,h1,_⟩:=h;exact h1
theorem jR.at {α:Type} {R:α→List Value→Prop} {w:World} {B sz n:Nat} {A:Option Addr} {l:List α} (h:jR R w B sz A n l) {k:Nat} {a:α} (hk:l[k]? = some a) :
    ∃ (b off:Nat) (cs:List Value),A=some ⟨b,off,none⟩∧b<B∧R a cs∧∀ j u,cs[j]? = some u→w.cell? ⟨b,off+k*sz+j,none⟩=some u:=by
 obtain⟨css,h1,h2,h3,h4,h5,h6⟩:=h;have hlt:k<l.length:=(List.getElem?_eq_some_iff.1 hk).1;obtain⟨b,off,e,hb,hc⟩:=h6 (by omega);obtain⟨cs,hcs⟩:∃ cs,css[k]? = some cs:=⟨_,List.getElem?_eq_getElem (by omega)⟩;refine⟨b,off,cs,e,hb,h3 k a cs hk hcs,fun j u hu=>?_⟩;rw [Nat.add_assoc];exact hc _ _ (dF h4 k cs hcs j u hu)
theorem jR.weak {α:Type} {R R':α→List Value→Prop} {w w':World} {B B' sz n:Nat} {A:Option Addr} {l:List α} (h:jR R w B sz A n l) (hR:∀ a cs,R a cs→R' a cs) (hw:∀ xs,Rd w B sz A n xs→Rd w' B' sz A n xs):jR R' w' B' sz A n l:=by
 obtain⟨css,h1,h2,h3,h4,h5⟩:=h;exact⟨css,h1,h2,fun i a cs ha hc=>hR a cs (h3 i a cs ha hc),h4,hw _ h5⟩
structure aE where
  kind:Int
  rune:Int
  set:ag
  name:ByteArray
structure bO where
  start:Bool
  fin:Bool
  before:List aE
  source:List aE
  after:List aE
  af:Int
structure aF where
  kind:Int
  name:ByteArray
  set:ag
  dir:Int
  left:bO
  right:bO
def jU (n:Int):Prop:=-9223372036854775808≤n∧n≤9223372036854775807
def yA (w:World) (B:Nat) (a:aE) (cs:List Value):Prop :=
  ∃ A n c,cs = [.int .i64 a.kind,.int .i32 a.rune,.slice A n c,.string a.name]∧lR w B A n a.set∧n≤maxLen∧jU a.kind∧a.name.size≤maxLen
def bM (w:World) (B:Nat) (A:Option Addr) (n:Nat) (l:List aE):Prop:=jR (yA w B) w B 4 A n l
def sC (w:World) (B:Nat) (s:bO) (cs:List Value):Prop :=
  ∃ A1 n1 c1 A2 n2 c2 A3 n3 c3,cs = [.bool s.start,.bool s.fin,.slice A1 n1 c1,.slice A2 n2 c2,.slice A3 n3 c3,.int .i64 s.af] ∧
    bM w B A1 n1 s.before∧bM w B A2 n2 s.source∧bM w B A3 n3 s.after∧n1≤maxLen∧n2≤maxLen∧n3≤maxLen∧jU s.af
def yo (w:World) (B:Nat) (p:aF) (cs:List Value):Prop :=
  ∃ A n c ls rs,cs = [.int .i64 p.kind,.string p.name,.slice A n c,.int .i64 p.dir]++ls++rs∧lR w B A n p.set∧n≤maxLen∧sC w B p.left ls∧sC w B p.right rs∧jU p.kind∧jU p.dir∧p.name.size≤maxLen
def Dt (w:World) (B:Nat) (A:Option Addr) (n:Nat) (l:List aF):Prop:=jR (yo w B) w B 16 A n l
section
variable {w w' : World} {B B' : Nat}
theorem yA.weak {a:aE} {cs:List Value} (hw:∀ A sz n xs,Rd w B sz A n xs→Rd w' B' sz A n xs) (h:yA w B a cs):yA w' B' a cs:=by
 obtain⟨A,n,c,e,h1,h2⟩:=h;exact⟨A,n,c,e,hw _ _ _ _ h1,h2⟩
theorem bM.weak {A:Option Addr} {n:Nat} {l:List aE} (hw:∀ A sz n xs,Rd w B sz A n xs→Rd w' B' sz A n xs) (h:bM w B A n l):bM w' B' A n l :=
  jR.weak h (fun _ _=>yA.weak hw) (hw _ _ _)
theorem sC.weak {s:bO} {cs:List Value} (hw:∀ A sz n xs,Rd w B sz A n xs→Rd w' B' sz A n xs) (h:sC w B s cs):sC w' B' s cs:=by
 obtain⟨A1,n1,c1,A2,n2,c2,A3,n3,c3,e,h1,h2,h3,h4⟩:=h;exact⟨A1,n1,c1,A2,n2,c2,A3,n3,c3,e,bM.weak hw h1,bM.weak hw h2,bM.weak hw h3,h4⟩
theorem yo.weak {p:aF} {cs:List Value} (hw:∀ A sz n xs,Rd w B sz A n xs→Rd w' B' sz A n xs) (h:yo w B p cs):yo w' B' p cs:=by
 obtain⟨A,n,c,ls,rs,e,h1,h2,h3,h4,h5⟩:=h;exact⟨A,n,c,ls,rs,e,hw _ _ _ _ h1,h2,sC.weak hw h3,sC.weak hw h4,h5⟩
theorem Dt.weak {A:Option Addr} {n:Nat} {l:List aF} (hw:∀ A sz n xs,Rd w B sz A n xs→Rd w' B' sz A n xs) (h:Dt w B A n l):Dt w' B' A n l :=
  jR.weak h (fun _ _=>yo.weak hw) (hw _ _ _)
theorem fS (hb:Below B w w') (hB:B≤B'):∀ A sz n xs,Rd w B sz A n xs→Rd w' B' sz A n xs:=fun _ _ _ _ h=>Rd.more (Rd.below h hb) hB
end
end Go.Proofs.YtkggjgeihhialaaGreatDoor
namespace Go.Proofs.YtkggjgeihhialaaGreatDoor
open Go.RowKit
def ng (a:aE):Int :=
  if a.kind=1 then (if cV a.rune=true then 0 else 3)else if a.kind=2 then bL a.set else if a.kind=3 then (if dY a.name=true then 0 else 7)else 1
def KQ (a:aE) (A:Option Addr) (n c:Nat):Value:=.agg #[.int .i64 a.kind,.int .i32 a.rune,.slice A n c,.string a.name]
theorem rH {w:World} {A:Option Addr} {n:Nat} {l:ag} (h:lR w w.heap.size A n l) (o:Obj):lR (w.alloc o) (w.alloc o).heap.size A n l :=
  fS ((Below.refl _ _).alloc (Nat.le_refl _) o) (by simp) _ _ _ _ h
theorem Aj (a:aE) (A:Option Addr) (n c:Nat) (w:World) (hn:n≤9223372036854775807) (hs:lR w w.heap.size A n a.set) :
    Calls Tryz.prog 119 #[KQ a A n c] w fun e w'=>e=.returned (.int .i64 (ng a))∧Below w.heap.size w w':=by
 obtain⟨kind,rune,set,name⟩:=a;have hbA:∀ o,Below w.heap.size w (w.alloc o):=fun o=>(Below.refl _ _).alloc (Nat.le_refl _) o;have HS:=qqh (rH hs);have HB:=qqh hbA;clear hs hbA;unfold KQ ng;dsimp only;by_cases h1:kind=1
 ·subst h1;rw [if_pos rfl];cases hr:cV rune
  all_goals
    go_enter Tryz.func119,Tryz.ntmps119
    go_wp2_with (go_at_call 50;refine(gn _ _).mono ?_;rintro e w' ⟨rfl,rfl⟩;rw [hr])
    go_ret
    exact⟨rfl,HB.out _⟩
 by_cases h2:kind=2
 ·subst h2;rw [if_neg h1,if_pos rfl];go_enter Tryz.func119,Tryz.ntmps119;go_wp2_with fail;refine(iS A n c set _ hn (HS.out _)).mono ?_;rintro e w' ⟨rfl,hb⟩;go_wp2_with fail;go_ret;exact⟨rfl,(HB.out _).trans (hb.mono (by simp))⟩
 have e1:(kind == 1)=false:=(by simpa using h1);have e2:(kind == 2)=false:=(by simpa using h2);by_cases h3:kind=3
 ·subst h3;rw [if_neg h1,if_neg h2,if_pos rfl];cases hr:dY name
  all_goals
    go_enter Tryz.func119,Tryz.ntmps119
    go_wp2_with (go_at_call 100;refine(iW _ _).mono ?_;rintro e w' ⟨rfl,rfl⟩;rw [hr])
    go_ret
    exact⟨rfl,HB.out _⟩
 have e3:(kind == 3)=false:=(by simpa using h3);rw [if_neg h1,if_neg h2,if_neg h3];clear h1 h2 h3;go_enter Tryz.func119,Tryz.ntmps119;go_wp2_with fail;go_ret;exact⟨rfl,HB.out _⟩
end Go.Proofs.YtkggjgeihhialaaGreatDoor
namespace Go.Proofs.YtkggjgeihhialaaGreatDoor
open Go.RowKit
def kO:List aE→Int
  | []=>0
  | a::r=>if ng a=0 then kO r else ng a
def b8 (l:List aE):Int:=if 20<l.length then 5 else kO l
theorem tG {w:World} {B n:Nat} {A:Option Addr} {l:List aE} (h:bM w B A n l) {k:Nat} {a:aE} (hk:l[k]? = some a) :
    ∃ (b off:Nat) (A':Option Addr) (n' c':Nat),A=some ⟨b,off,none⟩∧b<B∧w.cell? ⟨b,off+k*4,none⟩=some (.int .i64 a.kind)∧w.cell? ⟨b,off+k*4+1,none⟩=some (.int .i32 a.rune) ∧
      w.cell? ⟨b,off+k*4+2,none⟩=some (.slice A' n' c')∧w.cell? ⟨b,off+k*4+3,none⟩=some (.string a.name)∧lR w B A' n' a.set∧n'≤maxLen∧jU a.kind∧a.name.size≤maxLen:=by
 obtain⟨b,off,cs,e,hb,⟨A',n',c',hcs,h1,h2,h3,h4⟩,hc⟩:=jR.at h hk;subst hcs;exact⟨b,off,A',n',c',e,hb,hc 0 _ rfl,hc 1 _ rfl,hc 2 _ rfl,hc 3 _ rfl,h1,h2,h3,h4⟩
def TK (W:World) (l:List aE) (n:Nat) (i:Value) (wr:World):Prop :=
  ∃ k:Nat,k≤n∧i=.int .i64 k∧kO l=kO (l.drop k)∧Below W.heap.size W wr
end Go.Proofs.YtkggjgeihhialaaGreatDoor
namespace Go.Proofs.YtkggjgeihhialaaGreatDoor
open Go.RowKit
def eW:List (List aE)→Int
  | []=>0
  | l::r=>if b8 l=0 then eW r else b8 l
def bK (s:bO) (fE:Bool):Int :=
  if eW [s.before,s.source,s.after] = 0 then
    (if s.af < -1∨(s.source.length:Int)<s.af then 3 else if fE=true∧s.source.length=0 then 6 else 0)
  else eW [s.before,s.source,s.after]
def gl (l:List aE):Bool:=l.all fun a=>a.kind == 1
def lW (s:bO):Bool:=s.start || s.fin || decide (0<s.before.length) || decide (0<s.after.length)
theorem kP {l:List aE} (h:b8 l=0):l.length≤20:=by
 unfold b8 at h;by_cases h1:20<l.length
 ·rw [if_pos h1]at h;cases h
 omega
theorem Ed {w:World} {A:Option Addr} {n:Nat} {l:List aE} (h:bM w w.heap.size A n l) (o:Obj):bM (w.alloc o) (w.alloc o).heap.size A n l :=
  bM.weak (fS ((Below.refl _ _).alloc (Nat.le_refl _) o) (by simp)) h
theorem aM {w w':World} {A:Option Addr} {n:Nat} {l:List aE} (h:bM w w.heap.size A n l) (hb:Below w.heap.size w w'):bM w' w'.heap.size A n l :=
  bM.weak (fS hb hb.size) h
end Go.Proofs.YtkggjgeihhialaaGreatDoor
namespace Go.Proofs.YtkggjgeihhialaaGreatDoor
open Go.RowKit
theorem Dl (a:aE) (l:List aE):gl (a::l)=((a.kind == 1) && gl l):=rfl
def Vk (W:World) (l:List aE) (n:Nat) (i:Value) (wr:World):Prop :=
  ∃ k:Nat,k≤n∧i=.int .i64 k∧gl l=gl (l.drop k)∧Below W.heap.size W wr
theorem gz (s:bO) (A1 A2 A3:Option Addr) (n1 n2 n3 c1 c2 c3:Nat) (w:World) (h1:s.before.length=n1) (h3:s.after.length=n3) (m1:n1≤20) (m3:n3≤20) :
    Calls Tryz.prog 104 #[.agg #[.bool s.start,.bool s.fin,.slice A1 n1 c1,.slice A2 n2 c2,.slice A3 n3 c3,.int .i64 s.af]] w fun e w'=>e=.returned (.bool (!lW s))∧Below w.heap.size w w':=by
 have hv:lW s=(s.start || s.fin || decide (0<n1) || decide (0<n3)):=(by unfold lW;rw [h1,h3]);rw [hv];clear hv h1 h3;obtain⟨start,fin,before,l,after,af⟩:=s;dsimp only;cases start <;> cases fin
 ·go_enter Tryz.func104,Tryz.ntmps104;go_wp2_with fail;go_ret;exact⟨bD (by rw [Bool.eq_iff_iff];simp;omega),(Below.refl _ _).alloc (Nat.le_refl _) _⟩
 all_goals
   go_enter Tryz.func104,Tryz.ntmps104
   go_wp2_with fail
   go_ret
   exact⟨bD (by simp),(Below.refl _ _).alloc (Nat.le_refl _) _⟩
theorem J6 (a:aE) (A:Option Addr) (n c:Nat) (w:World) :
    Calls Tryz.prog 121 #[.agg #[.int .i64 a.kind,.int .i32 a.rune,.slice A n c,.string a.name]] w fun e w'=>e=.returned (.bool (a.kind != 1))∧Below w.heap.size w w':=by
 go_enter Tryz.func121,Tryz.ntmps121;go_wp2_with fail;go_ret;exact⟨rfl,(Below.refl _ _).alloc (Nat.le_refl _) _⟩
end Go.Proofs.YtkggjgeihhialaaGreatDoor
namespace Go.Proofs.YtkggjgeihhialaaGreatDoor
open Go.RowKit
theorem E6 (A:Option Addr) (n c:Nat) (l:List aE) (fv:Value) (Xp:fv=.func (.func 121) #[] #[]) (w:World) (hl:bM w w.heap.size A n l) (m:n≤maxLen) :
    Calls Tryz.prog 136 #[.slice A n c,fv] w fun e w'=>(∃ z:Int,e=.returned (.int .i64 z)∧(decide (0≤z) = !gl l))∧Below w.heap.size w w':=by
 subst Xp;have aS:=qqh (jR.len hl);have HL:=qqh hl;have hn2:n≤9223372036854775807:=(by unfold maxLen at m;omega);clear hl m;go_enter Tryz.func136,Tryz.ntmps136;go_wp2_with fail;go_loopw [8] (Vk w l n) (fun i _=>n - (intOf i).toNat);(case atStart=>exact⟨0,Nat.zero_le _,rfl,rfl,Below.refl _ _⟩);obtain⟨k,hk,rfl,aY,hb⟩:=hrel;have hz:=hb.size;by_cases hlt:k<n
 ·obtain⟨a,ha⟩:∃ z,l[k]? = some z:=⟨_,List.getElem?_eq_getElem (by rw [aS.out];exact hlt)⟩;rw [dH ha,Dl]at aY;obtain⟨b,off,A',n',c',rfl,dL,c0,Sg,Mf,c3',_,_,_,_⟩:=tG HL.out ha;have d0:=(hb.cell (p:=⟨b,off+k*4,none⟩) dL).trans c0;have d1:=(hb.cell (p:=⟨b,off+k*4+1,none⟩) dL).trans Sg;have d2:=(hb.cell (p:=⟨b,off+k*4+2,none⟩) dL).trans Mf;have d3:=(hb.cell (p:=⟨b,off+k*4+3,none⟩) dL).trans c3';have HT:=qqh (J6 a A' n' c' wr);clear c0 Sg Mf c3';by_cases hk1:a.kind=1
  ·have HG:=qqh (aY.trans (show(a.kind == 1 && gl (l.drop (k+1)))=gl (l.drop (k+1)) by simp [hk1]));have hk2:(a.kind != 1)=false:=(by simpa using hk1);clear aY hk1;go_wp2_with fail;refine HT.out.mono ?_;rintro e w2 ⟨rfl,aQ⟩;have bJ:=hb.trans (aQ.mono hz);rw [hk2];clear aQ;go_wp2_with fail;exact⟨⟨k+1,by omega,by go_num,HG.out,bJ⟩,by simp [intOf];omega⟩
  have HG:=qqh (aY.trans (show(a.kind == 1 && gl (l.drop (k+1)))=false by simp [hk1]));have hk2:(a.kind != 1)=true:=(by simpa using hk1);clear aY hk1;go_wp2_with fail;refine HT.out.mono ?_;rintro e w2 ⟨rfl,aQ⟩;have bJ:=hb.trans (aQ.mono hz);rw [hk2];clear aQ;go_wp2_with fail;go_ret;exact⟨⟨_,rfl,by rw [HG.out];simp⟩,bJ⟩
 obtain rfl:k=n:=(by omega);rw [List.drop_of_length_le (by rw [aS.out];omega)]at aY;have HG:=qqh (aY.trans (show gl [] = true from rfl));clear aY;go_wp2_with fail;go_ret;exact⟨⟨_,rfl,by rw [HG.out];simp⟩,hb⟩
theorem K8 (A:Option Addr) (n c:Nat) (l:List aE) (fv:Value) (Xp:fv=.func (.func 121) #[] #[]) (w:World) (hl:bM w w.heap.size A n l) (m:n≤maxLen) :
    Calls Tryz.prog 120 #[.slice A n c,fv] w fun e w'=>e=.returned (.bool (!gl l))∧Below w.heap.size w w':=by
 have H:=qqh (E6 A n c l fv Xp w hl m);clear hl m Xp;go_enter Tryz.func120,Tryz.ntmps120;go_wp2_with fail;refine H.out.mono ?_;rintro e w2 ⟨⟨z,rfl,hz⟩,hb⟩;have HZ:=qqh hz;clear hz;go_wp2_with fail;go_ret;exact⟨bD HZ.out,hb⟩
theorem gy (s:bO) (A1 A2 A3:Option Addr) (n1 n2 n3 c1 c2 c3:Nat) (w:World) (h2:bM w w.heap.size A2 n2 s.source) (m2:n2≤maxLen) :
    Calls Tryz.prog 103 #[.agg #[.bool s.start,.bool s.fin,.slice A1 n1 c1,.slice A2 n2 c2,.slice A3 n3 c3,.int .i64 s.af]] w fun e w'=>e=.returned (.bool (gl s.source))∧Below w.heap.size w w':=by
 obtain⟨start,fin,before,l,after,af⟩:=s;dsimp only at h2 ⊢;have H:=qqh (fun o=>K8 A2 n2 c2 l _ rfl (w.alloc o) (Ed h2 o) m2);have HB:=qqh (fun o=>(Below.refl w.heap.size w).alloc (Nat.le_refl _) o);clear h2 m2;go_enter Tryz.func103,Tryz.ntmps103;go_wp2_with fail;refine(H.out _).mono ?_;rintro e w2 ⟨rfl,hb⟩;have aQ:=(HB.out _).trans (hb.mono (by simp));clear hb;go_wp2_with fail;go_ret;exact⟨bD (by simp),aQ⟩
end Go.Proofs.YtkggjgeihhialaaGreatDoor
namespace Go.Proofs.YtkggjgeihhialaaGreatDoor
open Go.RowKit
def UW (W:World) (s:bO) (i:Value) (wr:World):Prop :=
  ∃ j:Nat,j≤3∧i=.int .i64 j∧eW [s.before,s.source,s.after] = eW ([s.before,s.source,s.after].drop j)∧Below W.heap.size W wr
theorem all_cons (l:List aE) (r:List (List aE)):eW (l::r)=if b8 l=0 then eW r else b8 l:=rfl
theorem Iq (s:bO) (W:World) (A1 A2 A3:Option Addr) (n1 n2 n3 c1 c2 c3:Nat) (h1:bM W W.heap.size A1 n1 s.before) (h2:bM W W.heap.size A2 n2 s.source) (h3:bM W W.heap.size A3 n3 s.after) (m1:n1≤maxLen) (m2:n2≤maxLen) (m3:n3≤maxLen) (j:Nat) (hj:j<3) :
    ∃ (A:Option Addr) (n c:Nat) (l:List aE),(#[.slice A1 n1 c1,.slice A2 n2 c2,.slice A3 n3 c3]:Array Value)[j]? = some (.slice A n c)∧bM W W.heap.size A n l∧n≤maxLen ∧ [s.before,s.source,s.after].drop j=l::[s.before,s.source,s.after].drop (j+1):=by
 match j,hj with
 | 0,_=>exact⟨A1,n1,c1,s.before,rfl,h1,m1,rfl⟩
 | 1,_=>exact⟨A2,n2,c2,s.source,rfl,h2,m2,rfl⟩
 | 2,_=>exact⟨A3,n3,c3,s.after,rfl,h3,m3,rfl⟩
theorem gB (s:bO) (fE:Bool) (A1 A2 A3:Option Addr) (n1 n2 n3 c1 c2 c3:Nat) (w:World) (h1:bM w w.heap.size A1 n1 s.before) (h2:bM w w.heap.size A2 n2 s.source) (h3:bM w w.heap.size A3 n3 s.after) (m1:n1≤maxLen) (m2:n2≤maxLen) (m3:n3≤maxLen) :
    Calls Tryz.prog 102 #[.agg #[.bool s.start,.bool s.fin,.slice A1 n1 c1,.slice A2 n2 c2,.slice A3 n3 c3,.int .i64 s.af],.bool fE] w fun e w'=>e=.returned (.int .i64 (bK s fE))∧Below w.heap.size w w':=by
 have jd:=jR.len h2;generalize hcs:(#[.bool s.start,.bool s.fin,.slice A1 n1 c1,.slice A2 n2 c2,.slice A3 n3 c3,.int .i64 s.af]:Array Value)=cs;have aT:Below w.heap.size w (w.alloc (.cells cs 101)):=(Below.refl _ _).alloc (Nat.le_refl _) _;have aQ:Below w.heap.size w ((w.alloc (.cells cs 101)).alloc (.cells #[.slice A1 n1 c1,.slice A2 n2 c2,.slice A3 n3 c3] 99)):=aT.alloc aT.size _;have hk1:aj ((w.alloc (.cells cs 101)).alloc (.cells #[.slice A1 n1 c1,.slice A2 n2 c2,.slice A3 n3 c3] 99)) w.heap.size 101 cs:=(aj.new _ _ _).alloc _;have hk2:aj ((w.alloc (.cells cs 101)).alloc (.cells #[.slice A1 n1 c1,.slice A2 n2 c2,.slice A3 n3 c3] 99)) (w.heap.size+1) 99 #[.slice A1 n1 c1,.slice A2 n2 c2,.slice A3 n3 c3]:=by
  have:=aj.new (w.alloc (.cells cs 101)) 99 #[.slice A1 n1 c1,.slice A2 n2 c2,.slice A3 n3 c3];simpa using this
 have gD:=qqh (Iq s _ A1 A2 A3 n1 n2 n3 c1 c2 c3 (aM h1 aQ) (aM h2 aQ) (aM h3 aQ) m1 m2 m3);have hm2:n2≤9223372036854775807:=(by unfold maxLen at m2;omega);have HB:=qqh aQ;have Mk:=qqh hk1;have QE:=qqh hk2;clear h1 h2 h3 m1 m2 m3 aT aQ hk1 hk2;subst hcs;go_enter Tryz.func102,Tryz.ntmps102;go_wp2_with fail;generalize hW:((w.alloc (.cells #[.bool s.start,.bool s.fin,.slice A1 n1 c1,.slice A2 n2 c2,.slice A3 n3 c3,.int .i64 s.af] 101)).alloc (.cells #[.slice A1 n1 c1,.slice A2 n2 c2,.slice A3 n3 c3] 99))=W at *;clear hW;go_loopw [18] (UW W s) (fun i _=>3 - (intOf i).toNat);(case atStart=>exact⟨0,by omega,rfl,rfl,Below.refl _ _⟩);obtain⟨j,hj,rfl,hall,hb⟩:=hrel;have hz:=hb.size;by_cases hj3:j<3
 ·obtain⟨A,n,c,l,hc,hl,hm,hd⟩:=gD.out j hj3;rw [hd,all_cons l]at hall;have dj:wr.cell? ⟨w.heap.size+1,j,none⟩=some (.slice A n c):=by
   rw [(aj.below QE.out hb QE.out.lt).cell j];exact hc
  have ht:decide ((j:Int)<3)=true:=decide_eq_true (by omega);have aS:=qqh (jR.len hl);have HL:=qqh hl;have hn:n≤9223372036854775807:=(by unfold maxLen at hm;omega);clear hl hc hd hm;by_cases h20:20<n
  ·have WU:b8 l=5:=(by unfold b8;rw [if_pos (by rw [aS.out];exact h20)]);rw [if_neg (by rw [WU];decide),WU]at hall;have HV:=qqh (show bK s fE=5 by unfold bK;rw [hall];rfl);clear hall WU;go_wp2_with fail;go_ret;rw [HV.out];exact⟨rfl,HB.out.trans (hb.mono HB.out.size)⟩
  have hlg:b8 l=kO l:=(by unfold b8;rw [if_neg (by rw [aS.out];exact h20)]);rw [hlg]at hall;have HA:=qqh hall;clear hall hlg;go_wp2_with fail;go_loopw [27] (TK W l n) (fun i _=>n - (intOf i).toNat);(case atStart=>exact⟨0,Nat.zero_le _,rfl,rfl,hb⟩);clear hb hz;obtain⟨k,hk,rfl,aY,hb⟩:=hrel;have hz:=hb.size;by_cases hlt:k<n
  ·obtain⟨a,ha⟩:∃ z,l[k]? = some z:=⟨_,List.getElem?_eq_getElem (by rw [aS.out];exact hlt)⟩;rw [dH ha,kO]at aY;obtain⟨b,off,A',n',c',rfl,dL,d0,d1,d2,d3,wS,hn',_,hnm⟩:=tG HL.out ha;have d0:=(hb.cell (p:=⟨b,off+k*4,none⟩) dL).trans d0;have d1:=(hb.cell (p:=⟨b,off+k*4+1,none⟩) dL).trans d1;have d2:=(hb.cell (p:=⟨b,off+k*4+2,none⟩) dL).trans d2;have d3:=(hb.cell (p:=⟨b,off+k*4+3,none⟩) dL).trans d3;have aT:=fun o=>hb.alloc hz o;have HI:=qqh (fun o=>Aj a A' n' c' (World.alloc _ o) (by unfold maxLen at hn';omega) (Rd.more (Rd.below wS (aT o)) (by simp;omega)));have bR:=qqh aT;clear wS aT hnm hn';unfold KQ at HI;by_cases hi:ng a=0
   ·rw [if_pos hi]at aY;have HG:=qqh aY;clear aY;go_wp2_with fail;refine(HI.out _).mono ?_;rintro e w2 ⟨rfl,aQ⟩;rw [hi];have bJ:=(bR.out _).trans (aQ.mono (by simp;omega));have bN:=qqh bJ;clear aQ bJ;go_wp2_with fail;exact⟨⟨k+1,by omega,by go_num,HG.out,bN.out⟩,by simp [intOf];omega⟩
   rw [if_neg hi]at aY;have hi2:(ng a != 0)=true:=(by simpa using hi);have Pg:=HA.out;rw [aY,if_neg hi]at Pg;have HV:=qqh (show bK s fE=ng a by unfold bK;rw [Pg,if_neg hi]);clear aY hi Pg;go_wp2_with fail;refine(HI.out _).mono ?_;rintro e w2 ⟨rfl,aQ⟩;have bJ:=(bR.out _).trans (aQ.mono (by simp;omega));have bN:=qqh bJ;clear aQ bJ;go_wp2_with fail;go_ret;rw [HV.out];exact⟨rfl,HB.out.trans (bN.out.mono HB.out.size)⟩
  obtain rfl:k=n:=(by omega);rw [List.drop_of_length_le (by rw [aS.out];omega)]at aY;have Pg:=HA.out;rw [aY,if_pos (show kO [] = 0 from rfl)]at Pg;have HG:=qqh Pg;clear aY Pg;go_wp2_with fail;exact⟨⟨j+1,by omega,by go_num,HG.out,hb⟩,by simp [intOf];omega⟩
 obtain rfl:j=3:=(by omega);have ha0:eW [s.before,s.source,s.after] = 0:=hall;have iI:=aj.below Mk.out hb Mk.out.lt;have d3:wr.cell? ⟨w.heap.size,3,none⟩=some (.slice A2 n2 c2):=iI.cell 3;have d5:wr.cell? ⟨w.heap.size,5,none⟩=some (.int .i64 s.af):=iI.cell 5;have hb0:=HB.out.trans (hb.mono HB.out.size);have HS:=qqh (show bK s fE=if s.af < -1∨(n2:Int)<s.af then 3 else if fE=true∧n2=0 then 6 else 0 by unfold bK;rw [if_pos ha0,jd]);clear hall ha0 iI jd;have dV:=qqh hb0;clear hb0;by_cases hc:s.af < -1∨(n2:Int)<s.af
 ·have HV:=qqh (show bK s fE=3 by rw [HS.out,if_pos hc]);rcases (show s.af < -1∨(-1≤s.af∧(n2:Int)<s.af) by omega)with h | ⟨h,h'⟩
  all_goals
    clear hc
    go_wp2_with fail
    go_ret
    rw [HV.out]
    exact⟨rfl,dV.out⟩
 have hc1 : -1≤s.af:=(by omega);have hc2:s.af≤n2:=(by omega);cases hmust:fE
 ·have HV:=qqh (show bK s false=0 by rw [← hmust,HS.out,if_neg hc,hmust];simp);subst hmust;clear hc;go_wp2_with fail;go_ret;rw [HV.out];exact⟨rfl,dV.out⟩
 subst hmust;by_cases h0:n2=0
 ·have HV:=qqh (show bK s true=6 by rw [HS.out,if_neg hc,h0];simp);have zT:((n2:Int) == 0)=true:=(by simp;omega);clear hc;go_wp2_with fail;go_ret;rw [HV.out];exact⟨rfl,dV.out⟩
 have HV:=qqh (show bK s true=0 by rw [HS.out,if_neg hc];simp [h0]);have zT:((n2:Int) == 0)=false:=(by simp;omega);clear hc;go_wp2_with fail;go_ret;rw [HV.out];exact⟨rfl,dV.out⟩
end Go.Proofs.YtkggjgeihhialaaGreatDoor
namespace Go.Proofs.YtkggjgeihhialaaGreatDoor
open Go.RowKit
def tr (dir:Int) (left right:bO):Bool :=
  (dir == 2 || gl right.source) && (dir == 1 || gl left.source) && (dir != 1 || (!lW right && decide (left.af<0))) && (dir != 2 || (!lW left && decide (right.af<0)))
def cS (dir:Int) (left right:bO):Int :=
  if dir<1∨3<dir then 1
  else if bK left (dir != 2)=0 then (if bK right (dir != 1)=0 then (if tr dir left right=true then 0 else 8)else bK right (dir != 1))
  else bK left (dir != 2)
def fG (p:aF):Int :=
  if p.kind=1 then (if dY p.name=true then bL p.set else 7)
  else if p.kind=3 then bL p.set
  else if p.kind=4 then (if jy p.name=true then 0 else 7)
  else if p.kind=2 then cS p.dir p.left p.right
  else 1
theorem Iw {s:bO} (h:eW [s.before,s.source,s.after] = 0):s.before.length≤20∧s.source.length≤20∧s.after.length≤20:=by
 simp only [eW]at h;by_cases h1:b8 s.before=0
 ·rw [if_pos h1]at h;by_cases h2:b8 s.source=0
  ·rw [if_pos h2]at h;by_cases h3:b8 s.after=0;exact⟨kP h1,kP h2,kP h3⟩;rw [if_neg h3]at h;exact absurd h h3
  rw [if_neg h2]at h;exact absurd h h2
 rw [if_neg h1]at h;exact absurd h h1
theorem dQ {s:bO} {fE:Bool} (h:bK s fE=0):s.before.length≤20∧s.source.length≤20∧s.after.length≤20:=by
 unfold bK at h;by_cases h1:eW [s.before,s.source,s.after] = 0;exact Iw h1;rw [if_neg h1]at h;exact absurd h h1
end Go.Proofs.YtkggjgeihhialaaGreatDoor
namespace Go.Proofs.YtkggjgeihhialaaGreatDoor
open Go.RowKit
theorem Ev (name:ByteArray) (left right:bO) (A:Option Addr) (n c:Nat) (L1 L2 L3 R1 R2 R3:Option Addr) (a1 a2 a3 x1 x2 x3 b1 b2 b3 y1 y2 y3:Nat) (w:World) (l1:bM w w.heap.size L1 a1 left.before) (l2:bM w w.heap.size L2 a2 left.source) (l3:bM w w.heap.size L3 a3 left.after) (yU:a1≤maxLen) (wE:a2≤maxLen) (yW:a3≤maxLen) (r1:bM w w.heap.size R1 b1 right.before) (r2:bM w w.heap.size R2 b2 right.source) (r3:bM w w.heap.size R3 b3 right.after) (Ad:b1≤maxLen) (wI:b2≤maxLen) (zR:b3≤maxLen) :
    Calls Tryz.prog 74 #[.agg #[.int .i64 2,.string name,.slice A n c,.int .i64 1,.bool left.start,.bool left.fin,.slice L1 a1 x1,.slice L2 a2 x2,.slice L3 a3 x3,.int .i64 left.af,.bool right.start,.bool right.fin,.slice R1 b1 y1,.slice R2 b2 y2,.slice R3 b3 y3,.int .i64 right.af]] w fun e w'=>e=.returned (.int .i64 (cS 1 left right))∧Below w.heap.size w w':=by
 have SL:=qqh (fun w' (hb:Below w.heap.size w w') fE=>gB left fE L1 L2 L3 a1 a2 a3 x1 x2 x3 w' (aM l1 hb) (aM l2 hb) (aM l3 hb) yU wE yW);have TL:=qqh (fun w' (hb:Below w.heap.size w w')=>gy left L1 L2 L3 a1 a2 a3 x1 x2 x3 w' (aM l2 hb) wE);have BL:=qqh (fun w' fE (h0:bK left fE=0)=>gz left L1 L2 L3 a1 a2 a3 x1 x2 x3 w' (jR.len l1) (jR.len l3) (by rw [← jR.len l1];exact(dQ h0).1) (by rw [← jR.len l3];exact(dQ h0).2.2));have SR:=qqh (fun w' (hb:Below w.heap.size w w') fE=>gB right fE R1 R2 R3 b1 b2 b3 y1 y2 y3 w' (aM r1 hb) (aM r2 hb) (aM r3 hb) Ad wI zR);have TR:=qqh (fun w' (hb:Below w.heap.size w w')=>gy right R1 R2 R3 b1 b2 b3 y1 y2 y3 w' (aM r2 hb) wI);have BR:=qqh (fun w' fE (h0:bK right fE=0)=>gz right R1 R2 R3 b1 b2 b3 y1 y2 y3 w' (jR.len r1) (jR.len r3) (by rw [← jR.len r1];exact(dQ h0).1) (by rw [← jR.len r3];exact(dQ h0).2.2));clear l1 l2 l3 r1 r2 r3 yU wE yW Ad wI zR;have dV:=qqh ((Below.refl w.heap.size w).alloc (Nat.le_refl _) (.cells #[.int .i64 2,.string name,.slice A n c,.int .i64 1,.bool left.start,.bool left.fin,.slice L1 a1 x1,.slice L2 a2 x2,.slice L3 a3 x3,.int .i64 left.af,.bool right.start,.bool right.fin,.slice R1 b1 y1,.slice R2 b2 y2,.slice R3 b3 y3,.int .i64 right.af] 103));have iA:=qqh (aj.new w 103 #[.int .i64 2,.string name,.slice A n c,.int .i64 1,.bool left.start,.bool left.fin,.slice L1 a1 x1,.slice L2 a2 x2,.slice L3 a3 x3,.int .i64 left.af,.bool right.start,.bool right.fin,.slice R1 b1 y1,.slice R2 b2 y2,.slice R3 b3 y3,.int .i64 right.af]);go_enter Tryz.func74,Tryz.ntmps74;go_wp2_with fail
 generalize w.alloc (.cells #[.int .i64 2,.string name,.slice A n c,.int .i64 1,.bool left.start,.bool left.fin,.slice L1 a1 x1,.slice L2 a2 x2,.slice L3 a3 x3,.int .i64 left.af,.bool right.start,.bool right.fin,.slice R1 b1 y1,.slice R2 b2 y2,.slice R3 b3 y3,.int .i64 right.af] 103)=W0 at *;have c0:W0.cell? ⟨w.heap.size,0,none⟩=some (.int .i64 2):=iA.out.cell 0;have c3:W0.cell? ⟨w.heap.size,3,none⟩=some (.int .i64 1):=iA.out.cell 3;have c4:W0.cell? ⟨w.heap.size,4,none⟩=some (.bool left.start):=iA.out.cell 4;have c5:W0.cell? ⟨w.heap.size,5,none⟩=some (.bool left.fin):=iA.out.cell 5;have c6:W0.cell? ⟨w.heap.size,6,none⟩=some (.slice L1 a1 x1):=iA.out.cell 6;have c7:W0.cell? ⟨w.heap.size,7,none⟩=some (.slice L2 a2 x2):=iA.out.cell 7;have c8:W0.cell? ⟨w.heap.size,8,none⟩=some (.slice L3 a3 x3):=iA.out.cell 8;have c9:W0.cell? ⟨w.heap.size,9,none⟩=some (.int .i64 left.af):=iA.out.cell 9;have c10:W0.cell? ⟨w.heap.size,10,none⟩=some (.bool right.start):=iA.out.cell 10;have c11:W0.cell? ⟨w.heap.size,11,none⟩=some (.bool right.fin):=iA.out.cell 11;have c12:W0.cell? ⟨w.heap.size,12,none⟩=some (.slice R1 b1 y1):=iA.out.cell 12;have c13:W0.cell? ⟨w.heap.size,13,none⟩=some (.slice R2 b2 y2):=iA.out.cell 13;have c14:W0.cell? ⟨w.heap.size,14,none⟩=some (.slice R3 b3 y3):=iA.out.cell 14;have c15:W0.cell? ⟨w.heap.size,15,none⟩=some (.int .i64 right.af):=iA.out.cell 15;go_quiet (fail);go_wp2_with fail;refine(SL.out _ (below_drewN dV.out _) true).mono ?_;rintro e w1 ⟨rfl,hb⟩;have qi:=qqh (dV.out.trans (Below.trans (below_drewN (Below.refl _ _) _) (hb.mono (by exact Nat.le_refl _)) |>.mono dV.out.size));have i5:=qqh (aj.below (aj.drewN iA.out _) hb iA.out.lt);clear hb;have d10:w1.cell? ⟨w.heap.size,10,none⟩=some (.bool right.start):=i5.out.cell 10
 have d11:w1.cell? ⟨w.heap.size,11,none⟩=some (.bool right.fin):=i5.out.cell 11;have d12:w1.cell? ⟨w.heap.size,12,none⟩=some (.slice R1 b1 y1):=i5.out.cell 12;have d13:w1.cell? ⟨w.heap.size,13,none⟩=some (.slice R2 b2 y2):=i5.out.cell 13;have d14:w1.cell? ⟨w.heap.size,14,none⟩=some (.slice R3 b3 y3):=i5.out.cell 14;have d15:w1.cell? ⟨w.heap.size,15,none⟩=some (.int .i64 right.af):=i5.out.cell 15;by_cases e1:bK left true=0
 ·have RN:(bK left true != 0)=false:=(by simp [e1]);go_wp2_with fail;refine(SR.out w1 qi.out false).mono ?_;rintro e w2 ⟨rfl,hb⟩;have je:=qqh (aj.below i5.out hb i5.out.lt);have qQ:=qqh (qi.out.trans (hb.mono qi.out.size));clear hb;have d10:w2.cell? ⟨w.heap.size,10,none⟩=some (.bool right.start):=je.out.cell 10;have d11:w2.cell? ⟨w.heap.size,11,none⟩=some (.bool right.fin):=je.out.cell 11;have d12:w2.cell? ⟨w.heap.size,12,none⟩=some (.slice R1 b1 y1):=je.out.cell 12;have d13:w2.cell? ⟨w.heap.size,13,none⟩=some (.slice R2 b2 y2):=je.out.cell 13;have d14:w2.cell? ⟨w.heap.size,14,none⟩=some (.slice R3 b3 y3):=je.out.cell 14;have d15:w2.cell? ⟨w.heap.size,15,none⟩=some (.int .i64 right.af):=je.out.cell 15;by_cases e2:bK right false=0
  ·have RX:(bK right false != 0)=false:=(by simp [e2]);go_wp2_with fail;refine(TR.out w2 qQ.out).mono ?_;rintro e w3 ⟨rfl,hb⟩;have jc:=qqh (aj.below je.out hb je.out.lt);have sX:=qqh (qQ.out.trans (hb.mono qQ.out.size));clear hb;have d10:w3.cell? ⟨w.heap.size,10,none⟩=some (.bool right.start):=jc.out.cell 10;have d11:w3.cell? ⟨w.heap.size,11,none⟩=some (.bool right.fin):=jc.out.cell 11;have d12:w3.cell? ⟨w.heap.size,12,none⟩=some (.slice R1 b1 y1):=jc.out.cell 12;have d13:w3.cell? ⟨w.heap.size,13,none⟩=some (.slice R2 b2 y2):=jc.out.cell 13;have d14:w3.cell? ⟨w.heap.size,14,none⟩=some (.slice R3 b3 y3):=jc.out.cell 14;have d15:w3.cell? ⟨w.heap.size,15,none⟩=some (.int .i64 right.af):=jc.out.cell 15;cases hp:gl right.source
   ·have HV:=qqh (show cS 1 left right=8 by simp [cS,tr,e1,e2,hp]);clear e1 e2 hp;go_wp2_with fail;go_ret;rw [HV.out];exact⟨rfl,sX.out⟩
   go_wp2_with fail;refine(BR.out w3 false e2).mono ?_;rintro e w4 ⟨rfl,hb⟩;have On:=qqh (aj.below jc.out hb jc.out.lt);have xd:=qqh (sX.out.trans (hb.mono sX.out.size));clear hb;have d9:w4.cell? ⟨w.heap.size,9,none⟩=some (.int .i64 left.af):=On.out.cell 9;cases ha:lW right
   ·by_cases Es:left.af<0
    ·have HV:=qqh (show cS 1 left right=0 by simp [cS,tr,e1,e2,hp,ha,Es]);clear e1 e2 hp ha;go_wp2_with fail;go_ret;rw [HV.out];exact⟨rfl,xd.out⟩
    have HV:=qqh (show cS 1 left right=8 by simp [cS,tr,e1,e2,hp,ha,Es]);clear e1 e2 hp ha;go_wp2_with fail;go_ret;rw [HV.out];exact⟨rfl,xd.out⟩
   have HV:=qqh (show cS 1 left right=8 by simp [cS,tr,e1,e2,hp,ha]);clear e1 e2 hp ha;go_wp2_with fail;go_ret;rw [HV.out];exact⟨rfl,xd.out⟩
  have RX:(bK right false != 0)=true:=(by simpa using e2);have HV:=qqh (show cS 1 left right=bK right false by simp [cS,e1,e2]);clear e1 e2;go_wp2_with fail;go_ret;rw [HV.out];exact⟨rfl,qQ.out⟩
 have RN:(bK left true != 0)=true:=(by simpa using e1);have HV:=qqh (show cS 1 left right=bK left true by simp [cS,e1]);clear e1;go_wp2_with fail;go_ret;rw [HV.out];exact⟨rfl,qi.out⟩
theorem EM (name:ByteArray) (left right:bO) (A:Option Addr) (n c:Nat) (L1 L2 L3 R1 R2 R3:Option Addr) (a1 a2 a3 x1 x2 x3 b1 b2 b3 y1 y2 y3:Nat) (w:World) (l1:bM w w.heap.size L1 a1 left.before) (l2:bM w w.heap.size L2 a2 left.source) (l3:bM w w.heap.size L3 a3 left.after) (yU:a1≤maxLen) (wE:a2≤maxLen) (yW:a3≤maxLen) (r1:bM w w.heap.size R1 b1 right.before) (r2:bM w w.heap.size R2 b2 right.source) (r3:bM w w.heap.size R3 b3 right.after) (Ad:b1≤maxLen) (wI:b2≤maxLen) (zR:b3≤maxLen) :
    Calls Tryz.prog 74 #[.agg #[.int .i64 2,.string name,.slice A n c,.int .i64 2,.bool left.start,.bool left.fin,.slice L1 a1 x1,.slice L2 a2 x2,.slice L3 a3 x3,.int .i64 left.af,.bool right.start,.bool right.fin,.slice R1 b1 y1,.slice R2 b2 y2,.slice R3 b3 y3,.int .i64 right.af]] w fun e w'=>e=.returned (.int .i64 (cS 2 left right))∧Below w.heap.size w w':=by
 have SL:=qqh (fun w' (hb:Below w.heap.size w w') fE=>gB left fE L1 L2 L3 a1 a2 a3 x1 x2 x3 w' (aM l1 hb) (aM l2 hb) (aM l3 hb) yU wE yW);have TL:=qqh (fun w' (hb:Below w.heap.size w w')=>gy left L1 L2 L3 a1 a2 a3 x1 x2 x3 w' (aM l2 hb) wE);have BL:=qqh (fun w' fE (h0:bK left fE=0)=>gz left L1 L2 L3 a1 a2 a3 x1 x2 x3 w' (jR.len l1) (jR.len l3) (by rw [← jR.len l1];exact(dQ h0).1) (by rw [← jR.len l3];exact(dQ h0).2.2));have SR:=qqh (fun w' (hb:Below w.heap.size w w') fE=>gB right fE R1 R2 R3 b1 b2 b3 y1 y2 y3 w' (aM r1 hb) (aM r2 hb) (aM r3 hb) Ad wI zR);have TR:=qqh (fun w' (hb:Below w.heap.size w w')=>gy right R1 R2 R3 b1 b2 b3 y1 y2 y3 w' (aM r2 hb) wI);have BR:=qqh (fun w' fE (h0:bK right fE=0)=>gz right R1 R2 R3 b1 b2 b3 y1 y2 y3 w' (jR.len r1) (jR.len r3) (by rw [← jR.len r1];exact(dQ h0).1) (by rw [← jR.len r3];exact(dQ h0).2.2));clear l1 l2 l3 r1 r2 r3 yU wE yW Ad wI zR;have dV:=qqh ((Below.refl w.heap.size w).alloc (Nat.le_refl _) (.cells #[.int .i64 2,.string name,.slice A n c,.int .i64 2,.bool left.start,.bool left.fin,.slice L1 a1 x1,.slice L2 a2 x2,.slice L3 a3 x3,.int .i64 left.af,.bool right.start,.bool right.fin,.slice R1 b1 y1,.slice R2 b2 y2,.slice R3 b3 y3,.int .i64 right.af] 103));have iA:=qqh (aj.new w 103 #[.int .i64 2,.string name,.slice A n c,.int .i64 2,.bool left.start,.bool left.fin,.slice L1 a1 x1,.slice L2 a2 x2,.slice L3 a3 x3,.int .i64 left.af,.bool right.start,.bool right.fin,.slice R1 b1 y1,.slice R2 b2 y2,.slice R3 b3 y3,.int .i64 right.af]);go_enter Tryz.func74,Tryz.ntmps74;go_wp2_with fail
 generalize w.alloc (.cells #[.int .i64 2,.string name,.slice A n c,.int .i64 2,.bool left.start,.bool left.fin,.slice L1 a1 x1,.slice L2 a2 x2,.slice L3 a3 x3,.int .i64 left.af,.bool right.start,.bool right.fin,.slice R1 b1 y1,.slice R2 b2 y2,.slice R3 b3 y3,.int .i64 right.af] 103)=W0 at *;have c0:W0.cell? ⟨w.heap.size,0,none⟩=some (.int .i64 2):=iA.out.cell 0;have c3:W0.cell? ⟨w.heap.size,3,none⟩=some (.int .i64 2):=iA.out.cell 3;have c4:W0.cell? ⟨w.heap.size,4,none⟩=some (.bool left.start):=iA.out.cell 4;have c5:W0.cell? ⟨w.heap.size,5,none⟩=some (.bool left.fin):=iA.out.cell 5;have c6:W0.cell? ⟨w.heap.size,6,none⟩=some (.slice L1 a1 x1):=iA.out.cell 6;have c7:W0.cell? ⟨w.heap.size,7,none⟩=some (.slice L2 a2 x2):=iA.out.cell 7;have c8:W0.cell? ⟨w.heap.size,8,none⟩=some (.slice L3 a3 x3):=iA.out.cell 8;have c9:W0.cell? ⟨w.heap.size,9,none⟩=some (.int .i64 left.af):=iA.out.cell 9;have c10:W0.cell? ⟨w.heap.size,10,none⟩=some (.bool right.start):=iA.out.cell 10;have c11:W0.cell? ⟨w.heap.size,11,none⟩=some (.bool right.fin):=iA.out.cell 11;have c12:W0.cell? ⟨w.heap.size,12,none⟩=some (.slice R1 b1 y1):=iA.out.cell 12;have c13:W0.cell? ⟨w.heap.size,13,none⟩=some (.slice R2 b2 y2):=iA.out.cell 13;have c14:W0.cell? ⟨w.heap.size,14,none⟩=some (.slice R3 b3 y3):=iA.out.cell 14;have c15:W0.cell? ⟨w.heap.size,15,none⟩=some (.int .i64 right.af):=iA.out.cell 15;go_quiet (fail);go_wp2_with fail;refine(SL.out _ (below_drewN dV.out _) false).mono ?_;rintro e w1 ⟨rfl,hb⟩;have qi:=qqh (dV.out.trans (Below.trans (below_drewN (Below.refl _ _) _) (hb.mono (by exact Nat.le_refl _)) |>.mono dV.out.size));have i5:=qqh (aj.below (aj.drewN iA.out _) hb iA.out.lt);clear hb;have d10:w1.cell? ⟨w.heap.size,10,none⟩=some (.bool right.start):=i5.out.cell 10
 have d11:w1.cell? ⟨w.heap.size,11,none⟩=some (.bool right.fin):=i5.out.cell 11;have d12:w1.cell? ⟨w.heap.size,12,none⟩=some (.slice R1 b1 y1):=i5.out.cell 12;have d13:w1.cell? ⟨w.heap.size,13,none⟩=some (.slice R2 b2 y2):=i5.out.cell 13;have d14:w1.cell? ⟨w.heap.size,14,none⟩=some (.slice R3 b3 y3):=i5.out.cell 14;have d15:w1.cell? ⟨w.heap.size,15,none⟩=some (.int .i64 right.af):=i5.out.cell 15;by_cases e1:bK left false=0
 ·have RN:(bK left false != 0)=false:=(by simp [e1]);go_wp2_with fail;refine(SR.out w1 qi.out true).mono ?_;rintro e w2 ⟨rfl,hb⟩;have je:=qqh (aj.below i5.out hb i5.out.lt);have qQ:=qqh (qi.out.trans (hb.mono qi.out.size));clear hb;have d4:w2.cell? ⟨w.heap.size,4,none⟩=some (.bool left.start):=je.out.cell 4;have d5:w2.cell? ⟨w.heap.size,5,none⟩=some (.bool left.fin):=je.out.cell 5;have d6:w2.cell? ⟨w.heap.size,6,none⟩=some (.slice L1 a1 x1):=je.out.cell 6;have d7:w2.cell? ⟨w.heap.size,7,none⟩=some (.slice L2 a2 x2):=je.out.cell 7;have d8:w2.cell? ⟨w.heap.size,8,none⟩=some (.slice L3 a3 x3):=je.out.cell 8;have d9:w2.cell? ⟨w.heap.size,9,none⟩=some (.int .i64 left.af):=je.out.cell 9;by_cases e2:bK right true=0
  ·have RX:(bK right true != 0)=false:=(by simp [e2]);go_wp2_with fail;refine(TL.out w2 qQ.out).mono ?_;rintro e w3 ⟨rfl,hb⟩;have jc:=qqh (aj.below je.out hb je.out.lt);have sX:=qqh (qQ.out.trans (hb.mono qQ.out.size));clear hb;have d4:w3.cell? ⟨w.heap.size,4,none⟩=some (.bool left.start):=jc.out.cell 4;have d5:w3.cell? ⟨w.heap.size,5,none⟩=some (.bool left.fin):=jc.out.cell 5;have d6:w3.cell? ⟨w.heap.size,6,none⟩=some (.slice L1 a1 x1):=jc.out.cell 6;have d7:w3.cell? ⟨w.heap.size,7,none⟩=some (.slice L2 a2 x2):=jc.out.cell 7;have d8:w3.cell? ⟨w.heap.size,8,none⟩=some (.slice L3 a3 x3):=jc.out.cell 8;have d9:w3.cell? ⟨w.heap.size,9,none⟩=some (.int .i64 left.af):=jc.out.cell 9;cases hp:gl left.source
   ·have HV:=qqh (show cS 2 left right=8 by simp [cS,tr,e1,e2,hp]);clear e1 e2 hp;go_wp2_with fail;go_ret;rw [HV.out];exact⟨rfl,sX.out⟩
   go_wp2_with fail;refine(BL.out w3 false e1).mono ?_;rintro e w4 ⟨rfl,hb⟩;have On:=qqh (aj.below jc.out hb jc.out.lt);have xd:=qqh (sX.out.trans (hb.mono sX.out.size));clear hb;have d15:w4.cell? ⟨w.heap.size,15,none⟩=some (.int .i64 right.af):=On.out.cell 15;cases ha:lW left
   ·by_cases Es:right.af<0
    ·have HV:=qqh (show cS 2 left right=0 by simp [cS,tr,e1,e2,hp,ha,Es]);clear e1 e2 hp ha;go_wp2_with fail;go_ret;rw [HV.out];exact⟨rfl,xd.out⟩
    have HV:=qqh (show cS 2 left right=8 by simp [cS,tr,e1,e2,hp,ha,Es]);clear e1 e2 hp ha;go_wp2_with fail;go_ret;rw [HV.out];exact⟨rfl,xd.out⟩
   have HV:=qqh (show cS 2 left right=8 by simp [cS,tr,e1,e2,hp,ha]);clear e1 e2 hp ha;go_wp2_with fail;go_ret;rw [HV.out];exact⟨rfl,xd.out⟩
  have RX:(bK right true != 0)=true:=(by simpa using e2);have HV:=qqh (show cS 2 left right=bK right true by simp [cS,e1,e2]);clear e1 e2;go_wp2_with fail;go_ret;rw [HV.out];exact⟨rfl,qQ.out⟩
 have RN:(bK left false != 0)=true:=(by simpa using e1);have HV:=qqh (show cS 2 left right=bK left false by simp [cS,e1]);clear e1;go_wp2_with fail;go_ret;rw [HV.out];exact⟨rfl,qi.out⟩
theorem EC (name:ByteArray) (left right:bO) (A:Option Addr) (n c:Nat) (L1 L2 L3 R1 R2 R3:Option Addr) (a1 a2 a3 x1 x2 x3 b1 b2 b3 y1 y2 y3:Nat) (w:World) (l1:bM w w.heap.size L1 a1 left.before) (l2:bM w w.heap.size L2 a2 left.source) (l3:bM w w.heap.size L3 a3 left.after) (yU:a1≤maxLen) (wE:a2≤maxLen) (yW:a3≤maxLen) (r1:bM w w.heap.size R1 b1 right.before) (r2:bM w w.heap.size R2 b2 right.source) (r3:bM w w.heap.size R3 b3 right.after) (Ad:b1≤maxLen) (wI:b2≤maxLen) (zR:b3≤maxLen) :
    Calls Tryz.prog 74 #[.agg #[.int .i64 2,.string name,.slice A n c,.int .i64 3,.bool left.start,.bool left.fin,.slice L1 a1 x1,.slice L2 a2 x2,.slice L3 a3 x3,.int .i64 left.af,.bool right.start,.bool right.fin,.slice R1 b1 y1,.slice R2 b2 y2,.slice R3 b3 y3,.int .i64 right.af]] w fun e w'=>e=.returned (.int .i64 (cS 3 left right))∧Below w.heap.size w w':=by
 have SL:=qqh (fun w' (hb:Below w.heap.size w w') fE=>gB left fE L1 L2 L3 a1 a2 a3 x1 x2 x3 w' (aM l1 hb) (aM l2 hb) (aM l3 hb) yU wE yW);have TL:=qqh (fun w' (hb:Below w.heap.size w w')=>gy left L1 L2 L3 a1 a2 a3 x1 x2 x3 w' (aM l2 hb) wE);have BL:=qqh (fun w' fE (h0:bK left fE=0)=>gz left L1 L2 L3 a1 a2 a3 x1 x2 x3 w' (jR.len l1) (jR.len l3) (by rw [← jR.len l1];exact(dQ h0).1) (by rw [← jR.len l3];exact(dQ h0).2.2));have SR:=qqh (fun w' (hb:Below w.heap.size w w') fE=>gB right fE R1 R2 R3 b1 b2 b3 y1 y2 y3 w' (aM r1 hb) (aM r2 hb) (aM r3 hb) Ad wI zR);have TR:=qqh (fun w' (hb:Below w.heap.size w w')=>gy right R1 R2 R3 b1 b2 b3 y1 y2 y3 w' (aM r2 hb) wI);have BR:=qqh (fun w' fE (h0:bK right fE=0)=>gz right R1 R2 R3 b1 b2 b3 y1 y2 y3 w' (jR.len r1) (jR.len r3) (by rw [← jR.len r1];exact(dQ h0).1) (by rw [← jR.len r3];exact(dQ h0).2.2));clear l1 l2 l3 r1 r2 r3 yU wE yW Ad wI zR;have dV:=qqh ((Below.refl w.heap.size w).alloc (Nat.le_refl _) (.cells #[.int .i64 2,.string name,.slice A n c,.int .i64 3,.bool left.start,.bool left.fin,.slice L1 a1 x1,.slice L2 a2 x2,.slice L3 a3 x3,.int .i64 left.af,.bool right.start,.bool right.fin,.slice R1 b1 y1,.slice R2 b2 y2,.slice R3 b3 y3,.int .i64 right.af] 103));have iA:=qqh (aj.new w 103 #[.int .i64 2,.string name,.slice A n c,.int .i64 3,.bool left.start,.bool left.fin,.slice L1 a1 x1,.slice L2 a2 x2,.slice L3 a3 x3,.int .i64 left.af,.bool right.start,.bool right.fin,.slice R1 b1 y1,.slice R2 b2 y2,.slice R3 b3 y3,.int .i64 right.af]);go_enter Tryz.func74,Tryz.ntmps74;go_wp2_with fail
 generalize w.alloc (.cells #[.int .i64 2,.string name,.slice A n c,.int .i64 3,.bool left.start,.bool left.fin,.slice L1 a1 x1,.slice L2 a2 x2,.slice L3 a3 x3,.int .i64 left.af,.bool right.start,.bool right.fin,.slice R1 b1 y1,.slice R2 b2 y2,.slice R3 b3 y3,.int .i64 right.af] 103)=W0 at *;have c0:W0.cell? ⟨w.heap.size,0,none⟩=some (.int .i64 2):=iA.out.cell 0;have c3:W0.cell? ⟨w.heap.size,3,none⟩=some (.int .i64 3):=iA.out.cell 3;have c4:W0.cell? ⟨w.heap.size,4,none⟩=some (.bool left.start):=iA.out.cell 4;have c5:W0.cell? ⟨w.heap.size,5,none⟩=some (.bool left.fin):=iA.out.cell 5;have c6:W0.cell? ⟨w.heap.size,6,none⟩=some (.slice L1 a1 x1):=iA.out.cell 6;have c7:W0.cell? ⟨w.heap.size,7,none⟩=some (.slice L2 a2 x2):=iA.out.cell 7;have c8:W0.cell? ⟨w.heap.size,8,none⟩=some (.slice L3 a3 x3):=iA.out.cell 8;have c9:W0.cell? ⟨w.heap.size,9,none⟩=some (.int .i64 left.af):=iA.out.cell 9;have c10:W0.cell? ⟨w.heap.size,10,none⟩=some (.bool right.start):=iA.out.cell 10;have c11:W0.cell? ⟨w.heap.size,11,none⟩=some (.bool right.fin):=iA.out.cell 11;have c12:W0.cell? ⟨w.heap.size,12,none⟩=some (.slice R1 b1 y1):=iA.out.cell 12;have c13:W0.cell? ⟨w.heap.size,13,none⟩=some (.slice R2 b2 y2):=iA.out.cell 13;have c14:W0.cell? ⟨w.heap.size,14,none⟩=some (.slice R3 b3 y3):=iA.out.cell 14;have c15:W0.cell? ⟨w.heap.size,15,none⟩=some (.int .i64 right.af):=iA.out.cell 15;go_quiet (fail);go_wp2_with fail;refine(SL.out _ (below_drewN dV.out _) true).mono ?_;rintro e w1 ⟨rfl,hb⟩;have qi:=qqh (dV.out.trans (Below.trans (below_drewN (Below.refl _ _) _) (hb.mono (by exact Nat.le_refl _)) |>.mono dV.out.size));have i5:=qqh (aj.below (aj.drewN iA.out _) hb iA.out.lt);clear hb;have d10:w1.cell? ⟨w.heap.size,10,none⟩=some (.bool right.start):=i5.out.cell 10
 have d11:w1.cell? ⟨w.heap.size,11,none⟩=some (.bool right.fin):=i5.out.cell 11;have d12:w1.cell? ⟨w.heap.size,12,none⟩=some (.slice R1 b1 y1):=i5.out.cell 12;have d13:w1.cell? ⟨w.heap.size,13,none⟩=some (.slice R2 b2 y2):=i5.out.cell 13;have d14:w1.cell? ⟨w.heap.size,14,none⟩=some (.slice R3 b3 y3):=i5.out.cell 14;have d15:w1.cell? ⟨w.heap.size,15,none⟩=some (.int .i64 right.af):=i5.out.cell 15;by_cases e1:bK left true=0
 ·have RN:(bK left true != 0)=false:=(by simp [e1]);go_wp2_with fail;refine(SR.out w1 qi.out true).mono ?_;rintro e w2 ⟨rfl,hb⟩;have je:=qqh (aj.below i5.out hb i5.out.lt);have qQ:=qqh (qi.out.trans (hb.mono qi.out.size));clear hb;have d10:w2.cell? ⟨w.heap.size,10,none⟩=some (.bool right.start):=je.out.cell 10;have d11:w2.cell? ⟨w.heap.size,11,none⟩=some (.bool right.fin):=je.out.cell 11;have d12:w2.cell? ⟨w.heap.size,12,none⟩=some (.slice R1 b1 y1):=je.out.cell 12;have d13:w2.cell? ⟨w.heap.size,13,none⟩=some (.slice R2 b2 y2):=je.out.cell 13;have d14:w2.cell? ⟨w.heap.size,14,none⟩=some (.slice R3 b3 y3):=je.out.cell 14;have d15:w2.cell? ⟨w.heap.size,15,none⟩=some (.int .i64 right.af):=je.out.cell 15;by_cases e2:bK right true=0
  ·have RX:(bK right true != 0)=false:=(by simp [e2]);go_wp2_with fail;refine(TR.out w2 qQ.out).mono ?_;rintro e w3 ⟨rfl,hb⟩;have jc:=qqh (aj.below je.out hb je.out.lt);have sX:=qqh (qQ.out.trans (hb.mono qQ.out.size));clear hb;have d4:w3.cell? ⟨w.heap.size,4,none⟩=some (.bool left.start):=jc.out.cell 4;have d5:w3.cell? ⟨w.heap.size,5,none⟩=some (.bool left.fin):=jc.out.cell 5;have d6:w3.cell? ⟨w.heap.size,6,none⟩=some (.slice L1 a1 x1):=jc.out.cell 6;have d7:w3.cell? ⟨w.heap.size,7,none⟩=some (.slice L2 a2 x2):=jc.out.cell 7;have d8:w3.cell? ⟨w.heap.size,8,none⟩=some (.slice L3 a3 x3):=jc.out.cell 8;have d9:w3.cell? ⟨w.heap.size,9,none⟩=some (.int .i64 left.af):=jc.out.cell 9;cases hp:gl right.source
   ·have HV:=qqh (show cS 3 left right=8 by simp [cS,tr,e1,e2,hp]);clear e1 e2 hp;go_wp2_with fail;go_ret;rw [HV.out];exact⟨rfl,sX.out⟩
   go_wp2_with fail;refine(TL.out w3 sX.out).mono ?_;rintro e w4 ⟨rfl,hb⟩;have On:=qqh (aj.below jc.out hb jc.out.lt);have xd:=qqh (sX.out.trans (hb.mono sX.out.size));clear hb;cases hq:gl left.source
   ·have HV:=qqh (show cS 3 left right=8 by simp [cS,tr,e1,e2,hp,hq]);clear e1 e2 hp hq;go_wp2_with fail;go_ret;rw [HV.out];exact⟨rfl,xd.out⟩
   have HV:=qqh (show cS 3 left right=0 by simp [cS,tr,e1,e2,hp,hq]);clear e1 e2 hp hq;go_wp2_with fail;go_ret;rw [HV.out];exact⟨rfl,xd.out⟩
  have RX:(bK right true != 0)=true:=(by simpa using e2);have HV:=qqh (show cS 3 left right=bK right true by simp [cS,e1,e2]);clear e1 e2;go_wp2_with fail;go_ret;rw [HV.out];exact⟨rfl,qQ.out⟩
 have RN:(bK left true != 0)=true:=(by simpa using e1);have HV:=qqh (show cS 3 left right=bK left true by simp [cS,e1]);clear e1;go_wp2_with fail;go_ret;rw [HV.out];exact⟨rfl,qi.out⟩
theorem Js (name:ByteArray) (left right:bO) (dir:Int) (A:Option Addr) (n c:Nat) (L1 L2 L3 R1 R2 R3:Option Addr) (a1 a2 a3 x1 x2 x3 b1 b2 b3 y1 y2 y3:Nat) (w:World) (h:dir<1∨3<dir) :
    Calls Tryz.prog 74 #[.agg #[.int .i64 2,.string name,.slice A n c,.int .i64 dir,.bool left.start,.bool left.fin,.slice L1 a1 x1,.slice L2 a2 x2,.slice L3 a3 x3,.int .i64 left.af,.bool right.start,.bool right.fin,.slice R1 b1 y1,.slice R2 b2 y2,.slice R3 b3 y3,.int .i64 right.af]] w fun e w'=>e=.returned (.int .i64 1)∧Below w.heap.size w w':=by
 have HB:=qqh ((Below.refl w.heap.size w).alloc (Nat.le_refl _) (.cells #[.int .i64 2,.string name,.slice A n c,.int .i64 dir,.bool left.start,.bool left.fin,.slice L1 a1 x1,.slice L2 a2 x2,.slice L3 a3 x3,.int .i64 left.af,.bool right.start,.bool right.fin,.slice R1 b1 y1,.slice R2 b2 y2,.slice R3 b3 y3,.int .i64 right.af] 103));rcases h with h | h
 all_goals
   go_enter Tryz.func74,Tryz.ntmps74
   go_wp2_with fail
   go_ret
   exact⟨rfl,HB.out⟩
end Go.Proofs.YtkggjgeihhialaaGreatDoor
