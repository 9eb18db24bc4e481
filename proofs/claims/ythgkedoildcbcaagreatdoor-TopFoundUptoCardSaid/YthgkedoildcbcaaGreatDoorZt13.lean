/- PartWalk + PartAll + RulesP + RulesMono + RulesEmb + SpaceEq + RulesEmb2 + FileSyn -/
import Derived.Test.YthgkedoildcbcaaGreatDoorZt10
import Derived.Deep.RegionWith
import Derived.Test.YthgkedoildcbcaaGreatDoorZt11
import Derived.Test.YthgkedoildcbcaaGreatDoorZt8
set_option maxHeartbeats 1600000
set_option maxRecDepth 100000
namespace Go.Proofs.YthgkedoildcbcaaGreatDoor
open Go.RowKit
theorem Dq {w:World} {g:Nat} {t:TypeId} {cs:Array Value} (h:ai w g t cs):ai w.drew g t cs:=h
theorem MA (name:ByteArray) (set:ag) (left right:bY) (dir:Int) (A:Option Addr) (n c:Nat) (L1 L2 L3 R1 R2 R3:Option Addr) (a1 a2 a3 x1 x2 x3 b1 b2 b3 y1 y2 y3:Nat) (w:World) (hs:nD w w.heap.size A n set) (hn:n≤9223372036854775807) :
    Calls Tryz.prog 62 #[.agg #[.int .i64 1,.string name,.slice A n c,.int .i64 dir,.bool left.start,.bool left.fin,.slice L1 a1 x1,.slice L2 a2 x2,.slice L3 a3 x3,.int .i64 left.aa,.bool right.start,.bool right.fin,.slice R1 b1 y1,.slice R2 b2 y2,.slice R3 b3 y3,.int .i64 right.aa]] w fun e w'=>e=.returned (.int .i64 (if eI name=true then bS set else 7))∧Below w.heap.size w w':=by
 have HB:=qqh ((Below.refl w.heap.size w).alloc (Nat.le_refl _) (.cells #[.int .i64 1,.string name,.slice A n c,.int .i64 dir,.bool left.start,.bool left.fin,.slice L1 a1 x1,.slice L2 a2 x2,.slice L3 a3 x3,.int .i64 left.aa,.bool right.start,.bool right.fin,.slice R1 b1 y1,.slice R2 b2 y2,.slice R3 b3 y3,.int .i64 right.aa] 97));have HS:=qqh (uo hs (.cells #[.int .i64 1,.string name,.slice A n c,.int .i64 dir,.bool left.start,.bool left.fin,.slice L1 a1 x1,.slice L2 a2 x2,.slice L3 a3 x3,.int .i64 left.aa,.bool right.start,.bool right.fin,.slice R1 b1 y1,.slice R2 b2 y2,.slice R3 b3 y3,.int .i64 right.aa] 97));clear hs;cases hr:eI name
 ·go_enter Tryz.func62,Tryz.ntmps62;go_wp2_with (go_at_call 88;refine(jE _ _).mono ?_;rintro e w' ⟨rfl,rfl⟩;rw [hr]);go_ret;exact⟨rfl,HB.out⟩
 go_enter Tryz.func62,Tryz.ntmps62;go_wp2_with (go_at_call 88;refine(jE _ _).mono ?_;rintro e w' ⟨rfl,rfl⟩;rw [hr]);refine(jA A n c set _ hn HS.out).mono ?_;rintro e w' ⟨rfl,hb⟩;go_wp2_with fail;go_ret;exact⟨rfl,HB.out.trans (hb.mono (by simp))⟩
theorem DR (name:ByteArray) (set:ag) (left right:bY) (dir:Int) (A:Option Addr) (n c:Nat) (L1 L2 L3 R1 R2 R3:Option Addr) (a1 a2 a3 x1 x2 x3 b1 b2 b3 y1 y2 y3:Nat) (w:World) (hs:nD w w.heap.size A n set) (hn:n≤9223372036854775807) :
    Calls Tryz.prog 62 #[.agg #[.int .i64 3,.string name,.slice A n c,.int .i64 dir,.bool left.start,.bool left.fin,.slice L1 a1 x1,.slice L2 a2 x2,.slice L3 a3 x3,.int .i64 left.aa,.bool right.start,.bool right.fin,.slice R1 b1 y1,.slice R2 b2 y2,.slice R3 b3 y3,.int .i64 right.aa]] w fun e w'=>e=.returned (.int .i64 (bS set))∧Below w.heap.size w w':=by
 have HB:=qqh ((Below.refl w.heap.size w).alloc (Nat.le_refl _) (.cells #[.int .i64 3,.string name,.slice A n c,.int .i64 dir,.bool left.start,.bool left.fin,.slice L1 a1 x1,.slice L2 a2 x2,.slice L3 a3 x3,.int .i64 left.aa,.bool right.start,.bool right.fin,.slice R1 b1 y1,.slice R2 b2 y2,.slice R3 b3 y3,.int .i64 right.aa] 97));have HS:=qqh (uo hs (.cells #[.int .i64 3,.string name,.slice A n c,.int .i64 dir,.bool left.start,.bool left.fin,.slice L1 a1 x1,.slice L2 a2 x2,.slice L3 a3 x3,.int .i64 left.aa,.bool right.start,.bool right.fin,.slice R1 b1 y1,.slice R2 b2 y2,.slice R3 b3 y3,.int .i64 right.aa] 97));clear hs;go_enter Tryz.func62,Tryz.ntmps62;go_wp2_with fail;refine(jA A n c set _ hn HS.out).mono ?_;rintro e w' ⟨rfl,hb⟩;go_wp2_with fail;go_ret;exact⟨rfl,HB.out.trans (hb.mono (by simp))⟩
theorem GC (name:ByteArray) (left right:bY) (kind dir:Int) (A:Option Addr) (n c:Nat) (L1 L2 L3 R1 R2 R3:Option Addr) (a1 a2 a3 x1 x2 x3 b1 b2 b3 y1 y2 y3:Nat) (w:World) (k1:kind≠1) (k2:kind≠2) (k3:kind≠3) (k4:kind≠4) :
    Calls Tryz.prog 62 #[.agg #[.int .i64 kind,.string name,.slice A n c,.int .i64 dir,.bool left.start,.bool left.fin,.slice L1 a1 x1,.slice L2 a2 x2,.slice L3 a3 x3,.int .i64 left.aa,.bool right.start,.bool right.fin,.slice R1 b1 y1,.slice R2 b2 y2,.slice R3 b3 y3,.int .i64 right.aa]] w fun e w'=>e=.returned (.int .i64 (1))∧Below w.heap.size w w':=by
 have HB:=qqh ((Below.refl w.heap.size w).alloc (Nat.le_refl _) (.cells #[.int .i64 kind,.string name,.slice A n c,.int .i64 dir,.bool left.start,.bool left.fin,.slice L1 a1 x1,.slice L2 a2 x2,.slice L3 a3 x3,.int .i64 left.aa,.bool right.start,.bool right.fin,.slice R1 b1 y1,.slice R2 b2 y2,.slice R3 b3 y3,.int .i64 right.aa] 97));have e1:(kind == 1)=false:=(by simpa using k1);have e2:(kind == 2)=false:=(by simpa using k2);have e3:(kind == 3)=false:=(by simpa using k3);have e4:(kind == 4)=false:=(by simpa using k4);clear k1 k2 k3 k4;go_enter Tryz.func62,Tryz.ntmps62;go_wp2_with fail;go_ret;exact⟨rfl,HB.out⟩
theorem II (name:ByteArray) (left right:bY) (dir:Int) (A:Option Addr) (n c:Nat) (L1 L2 L3 R1 R2 R3:Option Addr) (a1 a2 a3 x1 x2 x3 b1 b2 b3 y1 y2 y3:Nat) (w:World)  :
    Calls Tryz.prog 62 #[.agg #[.int .i64 4,.string name,.slice A n c,.int .i64 dir,.bool left.start,.bool left.fin,.slice L1 a1 x1,.slice L2 a2 x2,.slice L3 a3 x3,.int .i64 left.aa,.bool right.start,.bool right.fin,.slice R1 b1 y1,.slice R2 b2 y2,.slice R3 b3 y3,.int .i64 right.aa]] w fun e w'=>e=.returned (.int .i64 (if kE name=true then 0 else 7))∧Below w.heap.size w w':=by
 have HB:=qqh ((Below.refl w.heap.size w).alloc (Nat.le_refl _) (.cells #[.int .i64 4,.string name,.slice A n c,.int .i64 dir,.bool left.start,.bool left.fin,.slice L1 a1 x1,.slice L2 a2 x2,.slice L3 a3 x3,.int .i64 left.aa,.bool right.start,.bool right.fin,.slice R1 b1 y1,.slice R2 b2 y2,.slice R3 b3 y3,.int .i64 right.aa] 97));have c1:(w.alloc (.cells #[.int .i64 4,.string name,.slice A n c,.int .i64 dir,.bool left.start,.bool left.fin,.slice L1 a1 x1,.slice L2 a2 x2,.slice L3 a3 x3,.int .i64 left.aa,.bool right.start,.bool right.fin,.slice R1 b1 y1,.slice R2 b2 y2,.slice R3 b3 y3,.int .i64 right.aa] 97)).cell? ⟨w.heap.size,1,none⟩=some (.string name):=(ai.new _ _ _).cell 1;have hlt:w.heap.size<(w.alloc (.cells #[.int .i64 4,.string name,.slice A n c,.int .i64 dir,.bool left.start,.bool left.fin,.slice L1 a1 x1,.slice L2 a2 x2,.slice L3 a3 x3,.int .i64 left.aa,.bool right.start,.bool right.fin,.slice R1 b1 y1,.slice R2 b2 y2,.slice R3 b3 y3,.int .i64 right.aa] 97)).heap.size:=(by simp);cases hr:kE name
 all_goals
   have HR:=qqh hr
   clear hr
   go_enter Tryz.func62,Tryz.ntmps62
   go_wp2_with fail
   generalize w.alloc (.cells #[.int .i64 4,.string name,.slice A n c,.int .i64 dir,.bool left.start,.bool left.fin,.slice L1 a1 x1,.slice L2 a2 x2,.slice L3 a3 x3,.int .i64 left.aa,.bool right.start,.bool right.fin,.slice R1 b1 y1,.slice R2 b2 y2,.slice R3 b3 y3,.int .i64 right.aa] 97)=W0 at *
   go_region_with (first | (go_at_call 57;refine(i6 _).mono ?_;rintro e w' ⟨rfl,rfl⟩) | (go_at_call 56;refine(sv _ name _ HR.out _ (Dq (ai.new _ _ _))).mono ?_;rintro e w' ⟨rfl,rfl⟩))
   all_goals
     go_wp2_with fail
     go_ret
     exact⟨rfl,below_drewN (HB.out.alloc HB.out.size _) _⟩
theorem rS (p:aF) (A:Option Addr) (n c:Nat) (L1 L2 L3 R1 R2 R3:Option Addr) (a1 a2 a3 x1 x2 x3 b1 b2 b3 y1 y2 y3:Nat) (w:World) (hs:nD w w.heap.size A n p.set) (hn:n≤maxLen) (l1:bU w w.heap.size L1 a1 p.left.before) (l2:bU w w.heap.size L2 a2 p.left.source) (l3:bU w w.heap.size L3 a3 p.left.after) (Cw:a1≤maxLen) (yR:a2≤maxLen) (BG:a3≤maxLen) (r1:bU w w.heap.size R1 b1 p.right.before) (r2:bU w w.heap.size R2 b2 p.right.source) (r3:bU w w.heap.size R3 b3 p.right.after) (Co:b1≤maxLen) (yV:b2≤maxLen) (BW:b3≤maxLen)  :
    Calls Tryz.prog 62 #[.agg #[.int .i64 p.kind,.string p.name,.slice A n c,.int .i64 p.dir,.bool p.left.start,.bool p.left.fin,.slice L1 a1 x1,.slice L2 a2 x2,.slice L3 a3 x3,.int .i64 p.left.aa,.bool p.right.start,.bool p.right.fin,.slice R1 b1 y1,.slice R2 b2 y2,.slice R3 b3 y3,.int .i64 p.right.aa]] w fun e w'=>e=.returned (.int .i64 (gy p))∧Below w.heap.size w w':=by
 obtain⟨kind,name,set,dir,left,right⟩:=p;dsimp only at *;unfold gy;dsimp only;by_cases k1:kind=1
 ·subst k1;rw [if_pos rfl];exact MA name set left right dir A n c L1 L2 L3 R1 R2 R3 a1 a2 a3 x1 x2 x3 b1 b2 b3 y1 y2 y3 w hs (by unfold maxLen at hn;omega)
 by_cases k3:kind=3
 ·subst k3;rw [if_neg k1,if_pos rfl];exact DR name set left right dir A n c L1 L2 L3 R1 R2 R3 a1 a2 a3 x1 x2 x3 b1 b2 b3 y1 y2 y3 w hs (by unfold maxLen at hn;omega)
 by_cases k4:kind=4
 ·subst k4;rw [if_neg k1,if_neg k3,if_pos rfl];exact II name left right dir A n c L1 L2 L3 R1 R2 R3 a1 a2 a3 x1 x2 x3 b1 b2 b3 y1 y2 y3 w
 by_cases k2:kind=2
 ·subst k2;rw [if_neg k1,if_neg k3,if_neg k4,if_pos rfl];by_cases hd:dir<1∨3<dir
  ·have e:de dir left right=1:=if_pos hd;rw [e];exact MM name left right dir A n c L1 L2 L3 R1 R2 R3 a1 a2 a3 x1 x2 x3 b1 b2 b3 y1 y2 y3 w hd
  rcases (show dir=1∨dir=2∨dir=3 by omega)with rfl | rfl | rfl;exact Gd name left right A n c L1 L2 L3 R1 R2 R3 a1 a2 a3 x1 x2 x3 b1 b2 b3 y1 y2 y3 w l1 l2 l3 Cw yR BG r1 r2 r3 Co yV BW;exact Gi name left right A n c L1 L2 L3 R1 R2 R3 a1 a2 a3 x1 x2 x3 b1 b2 b3 y1 y2 y3 w l1 l2 l3 Cw yR BG r1 r2 r3 Co yV BW;exact Fb name left right A n c L1 L2 L3 R1 R2 R3 a1 a2 a3 x1 x2 x3 b1 b2 b3 y1 y2 y3 w l1 l2 l3 Cw yR BG r1 r2 r3 Co yV BW
 rw [if_neg k1,if_neg k3,if_neg k4,if_neg k2];exact GC name left right kind dir A n c L1 L2 L3 R1 R2 R3 a1 a2 a3 x1 x2 x3 b1 b2 b3 y1 y2 y3 w k1 k2 k3 k4
def q5 (r:Int):Bool:=decide (0≤r) && !decide (r=10)
def fl (L:List Int):Nat→Nat→Nat
  | 0,i=>aN L i
  | f+1,i=>if pk L (aN L i)=35 then fl L f (aB q5 L (aN L i))else aN L i
def az (L:List Int) (i:Nat):Nat:=fl L (L.length+1) i
def kN (r:Int):Bool:=(decide (97≤r) && decide (r≤122)) || decide (r=95)
def Cr (r:Int):Bool:=decide (48≤r) && decide (r≤57)
def bh (L:List Int) (i:Nat):Nat:=if kN (pk L i)=true then aB (fun r=>kN r || Cr r) L i else i
def iA (L:List Int) (i:Nat):ByteArray:=runesBytes (aL L i (bh L i))
def gR (L:List Int) (i:Nat):kS ByteArray:=if eI (iA L i)=true then .ok (iA L i,bh L i)else .error (7,i)
def lW (r:Int):Bool:=decide (0≤r) && !decide (r=39)
def eP:ByteArray:=⟨#[]⟩
def nA (x:Int):aE:=⟨1,x,[],eP⟩
def gK (L:List Int) (i:Nat):kS (List aE) :=
  if pk L (aB lW L (i+1))=39 then .ok ((aL L (i+1) (aB lW L (i+1))).map nA,aB lW L (i+1)+1)else .error (2,aB lW L (i+1))
def cE (L:List Int) (a:Nat) (out:List aE) (cur:Int):Except (Int × Nat) (Option ((List aE × Int) × Nat)) :=
  if pk L a=124 then (if 0≤cur then .error (5,a)else .ok (some ((out,(out.length:Int)),a+1)))
  else if pk L a=91 then match bI L 20 a with | .error e=>.error e | .ok (s,j)=>.ok (some ((out++[⟨2,0,s,eP⟩],cur),j))
  else if pk L a=36∧kN (pk L (a+1))=true then match gR L (a+1)with | .error e=>.error e | .ok (s,j)=>.ok (some ((out++[⟨3,0,[],s⟩],cur),j))
  else if pk L a=39 then match gK L a with | .error e=>.error e | .ok (l,j)=>.ok (some ((out++l,cur),j))
  else if pk L a=92∨dr (pk L a)=true then match dh L a with | .error e=>.error e | .ok (x,j)=>if bg x=true then .ok (some ((out++[nA x],cur),j))else .error (3,a)
  else .ok none
def cQ (L:List Int):Nat→Nat→List aE→Int→kS (List aE × Int)
  | 0,i,_,_=>.error (2,i)
  | f+1,i,out,cur=>match cE L (az L i) out cur with
    | .error e=>.error e
    | .ok none=>.ok ((out,cur),az L i)
    | .ok (some ((o,c),j))=>if 20<o.length then .error (5,az L i)else cQ L f j o c
def cJ (L:List Int) (i:Nat):kS (List aE × Int):=cQ L (L.length+1) i [] (-1)
def dZ (L:List Int) (start:Bool) (a:Nat):kS (List aE × List aE × Int) :=
  match cJ L a with
  | .error e=>.error e
  | .ok ((l,c),j)=>
    if pk L j=123 then (if 0≤c then .error (8,a)else match cJ L (j+1)with | .error e=>.error e | .ok ((l2,c2),j2)=>.ok ((l,l2,c2),j2))
    else if start=true then .error (2,j)else .ok (([],l,c),j)
def eJ (L:List Int) (j:Nat):kS (List aE × Bool) :=
  if pk L j=125 then match cJ L (j+1)with
    | .error e=>.error e
    | .ok ((l,c),k)=>if 0≤c then .error (8,j+1)else if pk L k=36 then .ok ((l,true),k+1)else .ok ((l,false),k)
  else .ok (([],false),j)
def dU (L:List Int) (i:Nat):kS bY :=
  match dZ L (decide (pk L (az L i)=94)) (if pk L (az L i)=94 then az L i+1 else az L i)with
  | .error e=>.error e
  | .ok ((b,s,c),j)=>match eJ L j with
    | .error e=>.error e
    | .ok ((a,fin),k)=>.ok (⟨decide (pk L (az L i)=94),fin,b,s,a,c⟩,az L k)
def ff (L:List Int) (i:Nat):kS Int :=
  if pk L i=62 then .ok (1,i+1)else if pk L i=60∧pk L (i+1)=62 then .ok (3,i+2)
  else match aU L i 60 with | .error e=>.error e | .ok j=>.ok (2,j)
def cZ:bY:=⟨false,false,[],[],[],0⟩
def jw (L:List Int) (i:Nat):kS aF :=
  match dU L i with
  | .error e=>.error e
  | .ok (l,j)=>match ff L j with
    | .error e=>.error e
    | .ok (d,k)=>match dU L k with
      | .error e=>.error e
      | .ok (r,m)=>if gy ⟨2,eP,[],d,l,r⟩≠0 then .error (gy ⟨2,eP,[],d,l,r⟩,i)else .ok (⟨2,eP,[],d,l,r⟩,m)
def jq (L:List Int) (i:Nat):kS aF :=
  match aU L (i+1) 58 with
  | .error e=>.error e
  | .ok j=>
    if pk L (az L j)=91 then match bI L 20 (az L j)with | .error e=>.error e | .ok (s,k)=>.ok (⟨3,eP,s,0,cZ,cZ⟩,k)
    else if kE (iA L (az L j))=true then .ok (⟨4,iA L (az L j),[],0,cZ,cZ⟩,bh L (az L j))else .error (7,az L j)
def oG (L:List Int) (i:Nat):kS aF :=
  match gR L (i+1)with
  | .error e=>.error e
  | .ok (s,j)=>match aU L (az L j) 61 with
    | .error e=>.error e
    | .ok k=>match bI L 20 (az L k)with | .error e=>.error e | .ok (t,m)=>.ok (⟨1,s,t,0,cZ,cZ⟩,m)
def jr (L:List Int) (i:Nat):kS aF :=
  if pk L i=58 then jq L i
  else if pk L i=36∧pk L (az L (bh L (i+1)))=61 then oG L i
  else jw L i
def gI (L:List Int):Nat→Nat→List aF→Except (Int × Nat) (List aF)
  | 0,i,_=>.error (2,i)
  | f+1,i,l=>
    if pk L (az L i)<0 then .ok l
    else if l.length=200 then .error (5,az L i)
    else match jr L (az L i)with
      | .error e=>.error e
      | .ok (p,j)=>match aU L (az L j) 59 with
        | .error e=>.error e
        | .ok k=>gI L f k (l++[p])
def ku (L:List Int):List aF × (Int × Int) :=
  if 16000<L.length then ([],(4,0))
  else match gI L (L.length+1) 0 []with
    | .error (e,p)=>([],(e,(p:Int)))
    | .ok l=>(l,(0,0))
theorem I9 (L:List Int):∀ f i,i≤fl L f i:=by
 intro f;induction f with
 | zero=>exact fun i=>eE L i
 | succ f ih=>
  intro i;rw [fl];split;exact Nat.le_trans (eE L i) (Nat.le_trans (fh _ _ _) (ih _));exact eE L i
theorem sV {L:List Int} {i:Nat} (h:i≤L.length):aN L i≤L.length:=(iP h).2
theorem J2 (L:List Int):∀ f i,i≤L.length→fl L f i≤L.length:=by
 intro f;induction f with
 | zero=>exact fun i h=>sV h
 | succ f ih=>
  intro i h;rw [fl];split;exact ih _ (iP (sV h)).2;exact sV h
theorem dG (L:List Int) (i:Nat):i≤az L i:=I9 L _ i
theorem pF {L:List Int} {i:Nat} (h:i≤L.length):az L i≤L.length:=J2 L _ i h
theorem yj (L:List Int) (i:Nat):i≤bh L i:=by
 unfold bh;split;exact fh _ _ _;exact Nat.le_refl _
theorem lJ {L:List Int} {i:Nat} (h:i≤L.length):bh L i≤L.length:=by
 unfold bh;split;exact(iP h).2;exact h
theorem lQ {L:List Int} {i j:Nat} {s:ByteArray} (h:gR L i=.ok (s,j)):i<j∧eI s=true∧s=iA L i∧j=bh L i:=by
 unfold gR at h;split at h
 ·rename_i hn;injection h with h;injection h with h1 h2;subst h1 h2;refine⟨?_,hn,rfl,rfl⟩;rcases Nat.lt_or_ge i (bh L i)with hl | hl;exact hl;have he:bh L i=i:=Nat.le_antisymm hl (yj L i);have ht:iA L i=runesBytes []:=by
   unfold iA aL;rw [he,Nat.sub_self];rfl
  rw [ht]at hn;exact absurd hn (by unfold eI;simp [show(runesBytes []).size=0 from rfl])
 cases h
theorem yB {L:List Int} {i j:Nat} {l:List aE} (h:gK L i=.ok (l,j)):i+1<j∧j≤L.length:=by
 unfold gK at h;split at h
 ·rename_i hn;injection h with h;injection h with h1 h2;have hlt:=bD (L:=L) (i:=aB lW L (i+1)) (by omega);have:=fh lW L (i+1);omega
 cases h
theorem xB {L:List Int} (hL:cH L) {a j:Nat} {out o:List aE} {cur c:Int} (h:cE L a out cur=.ok (some ((o,c),j))):a<j∧out.length≤o.length:=by
 unfold cE at h;split at h
 ·split at h
  ·cases h
  injection h with h;injection h with h;injection h with h1 h2;injection h1 with h1 h3;subst h1 h2;exact⟨by omega,Nat.le_refl _⟩
 split at h
 ·split at h
  ·cases h
  rename_i s j' hs;injection h with h;injection h with h;injection h with h1 h2;injection h1 with h1 h3;subst h1 h2;exact⟨(mo hL 20 _ _ _ hs).1,by simp⟩
 split at h
 ·split at h
  ·cases h
  rename_i s j' hs;injection h with h;injection h with h;injection h with h1 h2;injection h1 with h1 h3;subst h1 h2;have:=(lQ hs).1;exact⟨by omega,by simp⟩
 split at h
 ·split at h
  ·cases h
  rename_i s j' hs;injection h with h;injection h with h;injection h with h1 h2;injection h1 with h1 h3;subst h1 h2;have:=(yB hs).1;exact⟨by omega,by simp⟩
 split at h
 ·split at h
  ·cases h
  rename_i x j' hs;split at h
  ·injection h with h;injection h with h;injection h with h1 h2;injection h1 with h1 h3;subst h1 h2;exact⟨(oz hL hs).1,by simp⟩
  cases h
 injection h with h;cases h
structure JO (p:Nat) (L L':List Int):Prop where
  here:∀ k,k<L.length→L'[p+k]? = L[k]?
  stop:pk L' (p+L.length)=10∨pk L' (p+L.length)=32∨pk L' (p+L.length) = -1
def JA {α:Type} (p:Nat) (L:List Int) (r r':kS α):Prop:=∀ v j,r=.ok (v,j)→j≤L.length∧r'=.ok (v,p+j)
section
variable {p : Nat} {L L' : List Int} (E : JO p L L')
include E
theorem JO.pk {k:Nat} (hk:k<L.length):pk L' (p+k)=pk L k:=by
 unfold Go.Proofs.YthgkedoildcbcaaGreatDoor.pk;rw [E.here k hk]
theorem JO.is {k:Nat} (hk:k≤L.length) {r:Int} (h1:r≠10) (h2:r ≠ -1) (h3:r≠32):Go.Proofs.YthgkedoildcbcaaGreatDoor.pk L' (p+k)=r↔Go.Proofs.YthgkedoildcbcaaGreatDoor.pk L k=r:=by
 rcases Nat.lt_or_ge k L.length with hl | hl
 ·rw [E.pk hl]
 have hk:k=L.length:=(by omega);subst hk;rw [ri (Nat.le_refl _)];rcases E.stop with e | e | e <;> rw [e] <;> constructor <;> intro h' <;> omega
theorem JO.lt {k:Nat} (hk:k<L.length):p+k<L'.length:=by
 have:=E.here k hk;rw [List.getElem?_eq_getElem hk]at this;exact(List.getElem?_eq_some_iff.1 this).1
theorem JO.len:L.length≤L'.length:=by
 rcases Nat.eq_zero_or_pos L.length with h | h;omega;have:=E.lt (k:=L.length - 1) (by omega);omega
theorem JO.run {q:Int→Bool}:∀ (d i:Nat),L.length - i=d→i≤L.length→(aB q L i<L.length∨q (Go.Proofs.YthgkedoildcbcaaGreatDoor.pk L' (p+L.length))=false)→aB q L' (p+i)=p+aB q L i:=by
 intro d;induction d with
 | zero=>
  intro i hd hi hq;have e:i=L.length:=(by omega);subst e;have e2:aB q L L.length=L.length:=cX (fun h=>absurd h (Nat.lt_irrefl _));rw [e2]at hq ⊢;rcases hq with hq | hq;omega;exact cX (fun _=>hq)
 | succ d ih=>
  intro i hd hi hq;have hl:i<L.length:=(by omega);cases hv:q (Go.Proofs.YthgkedoildcbcaaGreatDoor.pk L i)with
  | true=>
   rw [ej hl hv]at hq ⊢;rw [ej (E.lt hl) (by rw [E.pk hl];exact hv),Nat.add_assoc];exact ih (i+1) (by omega) (by omega) hq
  | false=>rw [cX (fun _=>hv),cX (fun _=>by rw [E.pk hl];exact hv)]
theorem JO.Te {q:Int→Bool} (h1:q 10=false) (h2:q 32=false) (h3:q (-1)=false) {i:Nat} (hi:i≤L.length):aB q L' (p+i)=p+aB q L i:=by
 refine E.run _ i rfl hi (.inr ?_);rcases E.stop with e | e | e <;> rw [e] <;> assumption
theorem JO.skip {i:Nat} (hi:i≤L.length) (h:aN L i<L.length):aN L' (p+i)=p+aN L i:=E.run _ i rfl hi (.inl h)
theorem JO.text {i j:Nat} (hj:j≤L.length):aL L' (p+i) (p+j)=aL L i j:=by
 unfold aL;rw [show p+j - (p+i)=j - i by omega];apply List.ext_getElem?;intro k;rcases Nat.lt_or_ge k (j - i)with hk | hk
 ·rw [List.getElem?_take_of_lt hk,List.getElem?_take_of_lt hk,List.getElem?_drop,List.getElem?_drop,Nat.add_assoc];exact E.here _ (by omega)
 rw [List.getElem?_take_eq_none hk,List.getElem?_take_eq_none hk]
theorem jO {i j:Nat} {r:Int} (h:aU L i r=.ok j) (hr:r ≠ -1):j≤L.length∧aU L' (p+i) r=.ok (p+j):=by
 obtain⟨rfl,hp⟩:=gC h;have hl:i<L.length:=bD (by rw [hp];exact hr);refine⟨hl,?_⟩;rw [NG (by rw [E.pk hl];exact hp)];rfl
theorem PR (i:Nat):JA p L (lN L i) (lN L' (p+i)):=by
 intro v j h;unfold lN at h ⊢;cases h1:aU L (i+1) 123 with
 | error e=>rw [h1]at h;cases h
 | ok a=>
  obtain⟨ha,e1⟩:=jO E h1 (by decide);rw [h1]at h;rw [show p+i+1=p+(i+1) from rfl,e1];simp only at h ⊢;rw [E.Te rfl rfl rfl ha,show p+aB fe L a - (p+a)=aB fe L a - a by omega];by_cases hn:aB fe L a - a<1∨6<aB fe L a - a
  ·rw [if_pos hn]at h;cases h
  rw [if_neg hn]at h ⊢;cases h2:aU L (aB fe L a) 125 with
  | error e=>rw [h2]at h;cases h
  | ok b=>
   obtain⟨hb,e2⟩:=jO E h2 (by decide);rw [h2]at h;rw [e2];simp only at h ⊢;rw [E.text (iP ha).2];by_cases hm:1114111<eD (aL L a (aB fe L a))
   ·rw [if_pos hm]at h;cases h
   rw [if_neg hm]at h ⊢;injection h with h;injection h with h3 h4;subst h3 h4;exact⟨hb,rfl⟩
theorem xR (i:Nat):JA p L (dh L i) (dh L' (p+i)):=by
 intro v j h;unfold dh at h ⊢;by_cases hp:dr (Go.Proofs.YthgkedoildcbcaaGreatDoor.pk L i)=true
 ·have hl:i<L.length:=bD (fun e=>by rw [e]at hp;exact absurd hp (by decide));rw [if_pos hp]at h;rw [E.pk hl,if_pos hp];injection h with h;injection h with h3 h4;subst h3 h4;exact⟨hl,rfl⟩
 rw [if_neg hp]at h;by_cases yT:Go.Proofs.YthgkedoildcbcaaGreatDoor.pk L i≠92
 ·rw [if_pos yT]at h;cases h
 rw [if_neg yT]at h;have hl:i<L.length:=bD (by omega);rw [E.pk hl,if_neg hp,if_neg yT];have kU:i+1<L.length:=bD (fun e=>by rw [e]at h;simp at h);rw [show p+i+1=p+(i+1) from rfl,E.pk kU];by_cases c1:Go.Proofs.YthgkedoildcbcaaGreatDoor.pk L (i+1)=110
 ·rw [if_pos c1]at h ⊢;injection h with h;injection h with h3 h4;subst h3 h4;exact⟨kU,rfl⟩
 rw [if_neg c1]at h ⊢;by_cases c2:Go.Proofs.YthgkedoildcbcaaGreatDoor.pk L (i+1)=116
 ·rw [if_pos c2]at h ⊢;injection h with h;injection h with h3 h4;subst h3 h4;exact⟨kU,rfl⟩
 rw [if_neg c2]at h ⊢;by_cases c3:Go.Proofs.YthgkedoildcbcaaGreatDoor.pk L (i+1)=117
 ·rw [if_pos c3]at h ⊢;exact PR E _ _ _ h
 rw [if_neg c3]at h ⊢;by_cases c4:Go.Proofs.YthgkedoildcbcaaGreatDoor.pk L (i+1)<0∨Gw (Go.Proofs.YthgkedoildcbcaaGreatDoor.pk L (i+1))=true
 ·rw [if_pos c4]at h;cases h
 rw [if_neg c4]at h ⊢;injection h with h;injection h with h3 h4;subst h3 h4;exact⟨kU,rfl⟩
theorem MU (i:Nat):JA p L (jT L i) (jT L' (p+i)):=by
 intro v j h;unfold jT at h ⊢;cases h1:dh L i with
 | error e=>rw [h1]at h;cases h
 | ok q=>
  obtain⟨low,a⟩:=q;obtain⟨ha,e1⟩:=xR E _ _ _ h1;rw [h1]at h;rw [e1];simp only at h ⊢;have c1:(Go.Proofs.YthgkedoildcbcaaGreatDoor.pk L' (p+a)=45∧Go.Proofs.YthgkedoildcbcaaGreatDoor.pk L' (p+a+1)≠91)↔(Go.Proofs.YthgkedoildcbcaaGreatDoor.pk L a=45∧Go.Proofs.YthgkedoildcbcaaGreatDoor.pk L (a+1)≠91):=by
   rw [E.is ha (by decide) (by decide) (by decide)];refine and_congr_right (fun Rl=>?_);have hl:a<L.length:=bD (by omega);exact not_congr (E.is (k:=a+1) hl (by decide) (by decide) (by decide))
  by_cases hc:Go.Proofs.YthgkedoildcbcaaGreatDoor.pk L a=45∧Go.Proofs.YthgkedoildcbcaaGreatDoor.pk L (a+1)≠91
  ·rw [if_pos hc]at h;rw [if_pos (c1.2 hc)];cases h2:dh L (a+1)with
   | error e=>rw [h2]at h;cases h
   | ok q=>
    obtain⟨high,b⟩:=q;obtain⟨hb,e2⟩:=xR E _ _ _ h2;rw [h2]at h;rw [show p+a+1=p+(a+1) from rfl,e2];simp only at h ⊢;by_cases hh:high<low
    ·rw [if_pos hh]at h;cases h
    rw [if_neg hh]at h ⊢;injection h with h;injection h with h3 h4;subst h3 h4;exact⟨hb,rfl⟩
  rw [if_neg hc]at h;rw [if_neg (fun x=>hc (c1.1 x))];injection h with h;injection h with h3 h4;subst h3 h4;exact⟨ha,rfl⟩
theorem Kb {i:Nat} (hi:i+2≤L.length):JA p L (fk L i) (fk L' (p+i)):=by
 intro v j h;unfold fk at h ⊢;rw [show p+i+2=p+(i+2) from rfl,E.Te rfl rfl rfl hi,E.text (iP hi).2];cases h0:ie (aL L (i+2) (aB dr L (i+2)))with
 | none=>rw [h0]at h;cases h
 | some s=>
  rw [h0]at h;simp only at h ⊢;cases h1:aU L (aB dr L (i+2)) 58 with
  | error e=>rw [h1]at h;cases h
  | ok a=>
   obtain⟨ha,e1⟩:=jO E h1 (by decide);rw [h1]at h;rw [e1];simp only at h ⊢;cases h2:aU L a 93 with
   | error e=>rw [h2]at h;cases h
   | ok b=>
    obtain⟨hb,e2⟩:=jO E h2 (by decide);rw [h2]at h;rw [e2];simp only at h ⊢;injection h with h;injection h with h3 h4;subst h3 h4;exact⟨hb,rfl⟩
def SY (p:Nat) (L:List Int) (inner inner':Nat→kS ag):Prop:=∀ i s j,inner i=.ok (s,j)→i<j∧j≤L.length∧inner' (p+i)=.ok (s,p+j)
theorem L6 {inner inner':Nat→kS ag} (hI:SY p L inner inner') (i:Nat) (s:ag) (j:Nat) (h:dI inner L i=.ok (s,j)):i<L.length∧j≤L.length∧dI inner' L' (p+i)=.ok (s,p+j):=by
 have hl:i<L.length:=by
  refine bD (fun e=>?_);unfold dI at h;rw [if_neg (fun x=>by have:=x.1;omega),if_neg (by omega),if_neg (by omega)]at h;unfold jT dh at h;rw [e]at h;simp [dr]at h
 refine⟨hl,?_⟩;unfold dI at h ⊢;rw [E.pk hl,show p+i+1=p+(i+1) from rfl];have c1:=E.is (k:=i+1) hl (r:=58) (by decide) (by decide) (by decide);by_cases hc:Go.Proofs.YthgkedoildcbcaaGreatDoor.pk L i=91∧Go.Proofs.YthgkedoildcbcaaGreatDoor.pk L (i+1)=58
 ·rw [if_pos hc]at h;rw [if_pos ⟨hc.1,c1.2 hc.2⟩];have kU:i+1<L.length:=bD (by omega);exact Kb E kU _ _ h
 rw [if_neg hc]at h;rw [if_neg (fun x=>hc ⟨x.1,c1.1 x.2⟩)];by_cases lG:Go.Proofs.YthgkedoildcbcaaGreatDoor.pk L i=91
 ·rw [if_pos lG]at h ⊢;exact(hI _ _ _ h).2
 rw [if_neg lG]at h ⊢;by_cases Qs:Go.Proofs.YthgkedoildcbcaaGreatDoor.pk L i=38∨Go.Proofs.YthgkedoildcbcaaGreatDoor.pk L i=45
 ·rw [if_pos Qs]at h ⊢;obtain⟨g1,g2,g3⟩:=hI _ _ _ h;rw [E.skip (i:=i+1) hl (by omega)];exact⟨g2,g3⟩
 rw [if_neg Qs]at h ⊢;cases h1:jT L i with
 | error e=>rw [h1]at h;cases h
 | ok q=>
  obtain⟨x,a⟩:=q;obtain⟨ha,e1⟩:=MU E _ _ _ h1;rw [h1]at h;rw [e1];simp only at h ⊢;injection h with h;injection h with h3 h4;subst h3 h4;exact⟨ha,rfl⟩
theorem IT {inner inner':Nat→kS ag} (hI:SY p L inner inner'):∀ (f f' i:Nat) (cur s:ag) (j:Nat),f≤f'→i≤L.length→ei inner L f i cur=.ok (s,j)→j≤L.length∧ei inner' L' f' (p+i) cur=.ok (s,p+j):=by
 intro f;induction f with
 | zero=>intro f' i cur s j _ _ h;unfold ei at h;cases h
 | succ f ih=>
  intro f' i cur s j hf hi h;obtain⟨f',rfl⟩:∃ g,f'=g+1:=⟨f' - 1,by omega⟩;rw [ei]at h ⊢;by_cases Ou:Go.Proofs.YthgkedoildcbcaaGreatDoor.pk L (aN L i)=93
  ·have hl:aN L i<L.length:=bD (by omega);rw [if_pos Ou]at h;rw [E.skip hi hl,E.pk hl,if_pos Ou];injection h with h;injection h with h3 h4;subst h3 h4;exact⟨hl,rfl⟩
  rw [if_neg Ou]at h;cases h1:dI inner L (aN L i)with
  | error e=>rw [h1]at h;cases h
  | ok q=>
   obtain⟨t,a⟩:=q;obtain⟨hl,ha,e1⟩:=L6 E hI _ _ _ h1;rw [h1]at h;rw [E.skip hi hl,E.pk hl,if_neg Ou,e1];simp only at h ⊢;by_cases hw:(ot (vN (Go.Proofs.YthgkedoildcbcaaGreatDoor.pk L (aN L i))) cur t).2≠0
   ·rw [if_pos hw]at h;cases h
   rw [if_neg hw]at h ⊢;exact ih f' a _ _ _ (by omega) ha h
theorem Cy (hL:cH L):∀ n,SY p L (bI L n) (bI L' n):=by
 intro n;induction n with
 | zero=>intro i s j h;unfold bI at h;cases h
 | succ n ih=>
  intro i s j h;refine⟨(mo hL (n+1) i s j h).1,?_⟩;rw [bI]at h ⊢;cases h1:aU L i 91 with
  | error e=>rw [h1]at h;cases h
  | ok a=>
   obtain⟨ha,e1⟩:=jO E h1 (by decide);rw [h1]at h;rw [e1];simp only at h ⊢;have c1:=E.is ha (r:=94) (by decide) (by decide) (by decide);have hst:(if Go.Proofs.YthgkedoildcbcaaGreatDoor.pk L' (p+a)=94 then p+a+1 else p+a)=p+(if Go.Proofs.YthgkedoildcbcaaGreatDoor.pk L a=94 then a+1 else a):=by
    by_cases pn:Go.Proofs.YthgkedoildcbcaaGreatDoor.pk L a=94
    ·rw [if_pos pn,if_pos (c1.2 pn)];rfl
    rw [if_neg pn,if_neg (fun x=>pn (c1.1 x))]
   rw [hst];have SO:(if Go.Proofs.YthgkedoildcbcaaGreatDoor.pk L a=94 then a+1 else a)≤L.length:=by
    split
    ·rename_i pn;exact bD (by omega)
    exact ha
   cases h2:ei (bI L n) L (L.length+1) (if Go.Proofs.YthgkedoildcbcaaGreatDoor.pk L a=94 then a+1 else a) []with
   | error e=>rw [h2]at h;cases h
   | ok q=>
    obtain⟨cur,k⟩:=q;obtain⟨hk,e2⟩:=IT E ih _ (L'.length+1) _ _ _ _ (by have:=E.len;omega) SO h2;rw [h2]at h;rw [e2];simp only at h ⊢;by_cases pn:Go.Proofs.YthgkedoildcbcaaGreatDoor.pk L a=94
    ·rw [if_pos pn]at h;rw [if_pos (c1.2 pn)];by_cases hw:(ot 94 cur []).2≠0
     ·rw [if_pos hw]at h;cases h
     rw [if_neg hw]at h ⊢;injection h with h;injection h with h3 h4;subst h3 h4;exact⟨hk,rfl⟩
    rw [if_neg pn]at h;rw [if_neg (fun x=>pn (c1.1 x))];injection h with h;injection h with h3 h4;subst h3 h4;exact⟨hk,rfl⟩
end
theorem zk (L:List Int):∀ f g i,L.length<f+i→L.length<g+i→fl L f i=fl L g i:=by
 have key:∀ g i,L.length<i→fl L g i=aN L i:=by
  intro g i h;cases g with
  | zero=>rfl
  | succ g=>
   rw [fl,if_neg];have e:aN L i=i:=cX (fun h2=>absurd h2 (by omega));rw [e,ri (by omega)];decide
 intro f;induction f with
 | zero=>intro g i h1 h2;rw [key 0 i (by omega),key g i (by omega)]
 | succ f ih=>
  intro g i h1 h2;cases g with
  | zero=>rw [key 0 i (by omega),key (f+1) i (by omega)]
  | succ g=>
   rw [fl,fl];by_cases tZ:pk L (aN L i)=35
   ·rw [if_pos tZ,if_pos tZ];have hl:aN L i<L.length:=bD (by omega);have h3:=eE L i;have h4:aN L i+1≤aB q5 L (aN L i):=(by rw [ej hl (by rw [tZ];rfl)];exact fh _ _ _);exact ih g _ (by omega) (by omega)
   rw [if_neg tZ,if_neg tZ]
theorem LI {L:List Int} {k:Nat} (tZ:pk L k=35):k<L.length∧k+1≤aB q5 L k:=by
 have hl:k<L.length:=bD (by omega);exact⟨hl,by rw [ej hl (by rw [tZ];rfl)];exact fh _ _ _⟩
theorem pJ (L:List Int) (i:Nat):az L i=if pk L (aN L i)=35 then az L (aB q5 L (aN L i))else aN L i:=by
 show fl L (L.length+1) i=_;rw [fl];by_cases tZ:pk L (aN L i)=35
 ·rw [if_pos tZ,if_pos tZ];have:=(LI tZ).2;exact zk L _ _ _ (by omega) (by omega)
 rw [if_neg tZ,if_neg tZ]
theorem Kl {L:List Int} {i:Nat} (h1:rA (pk L i)=false) (h2:pk L i≠35):az L i=i:=by
 have e:aN L i=i:=cX (fun _=>h1);rw [pJ,e,if_neg h2]
theorem Ma {L:List Int} (hL:cH L):∀ (f i:Nat) (out:List aE) (cur:Int) (v:List aE × Int) (j:Nat),cQ L f i out cur=.ok (v,j)→az L i≤j:=by
 intro f;induction f with
 | zero=>intro i out cur v j h;rw [cQ]at h;cases h
 | succ f ih=>
  intro i out cur v j h;rw [cQ]at h;cases he:cE L (az L i) out cur with
  | error e=>rw [he]at h;cases h
  | ok q=>
   rw [he]at h;cases q with
   | none=>simp only at h;injection h with h;injection h with h1 h2;omega
   | some q=>
    obtain⟨⟨o,c⟩,k⟩:=q;simp only at h;by_cases h20:20<o.length
    ·rw [if_pos h20]at h;cases h
    rw [if_neg h20]at h;have h1:=(xB hL he).1;have h2:=ih _ _ _ _ _ h;have h3:=dG L k;omega
section
variable {p : Nat} {L L' : List Int} (E : JO p L L')
include E
theorem gF:∀ (d i:Nat),L.length - i=d→i≤L.length→(az L i<L.length∨pk L' (p+L.length) = -1)→az L' (p+i)=p+az L i:=by
 intro d;induction d using Nat.strongRecOn with
 | _ d ih=>
  intro i hd hi hq;rw [pJ L i]at hq;rw [pJ L i,pJ L' (p+i)];by_cases tZ:pk L (aN L i)=35
  ·obtain⟨hl,hm⟩:=LI tZ;rw [if_pos tZ]at hq ⊢;rw [E.skip hi hl,E.pk hl,if_pos tZ];have h1:=eE L i;have h2:aB q5 L (aN L i)≤L.length:=(iP (Nat.le_of_lt hl)).2;have h3:=dG L (aB q5 L (aN L i));rw [E.run _ _ rfl (Nat.le_of_lt hl) (by rcases hq with hq | hq;exact .inl (by omega);exact .inr (by rw [hq];rfl))];exact ih _ (by omega) _ rfl h2 hq
  rw [if_neg tZ]at hq ⊢;have hs:aN L i≤L.length:=sV hi;have e:aN L' (p+i)=p+aN L i:=E.run _ i rfl hi (by rcases hq with hq | hq;exact .inl hq;exact .inr (by rw [hq];rfl));rw [e,if_neg];rcases Nat.lt_or_ge (aN L i) L.length with hl | hl
  ·rw [E.pk hl];exact tZ
  rcases hq with hq | hq;omega;rw [show aN L i=L.length by omega,hq];decide
theorem jM {i:Nat} (hi:i≤L.length):bh L' (p+i)=p+bh L i:=by
 unfold bh;rcases Nat.lt_or_ge i L.length with hl | hl
 ·rw [E.pk hl];split;exact E.Te (by decide) (by decide) (by decide) hi;rfl
 have e:i=L.length:=(by omega);subst e;rw [ri (Nat.le_refl _),if_neg (by decide:¬ kN (-1)=true),if_neg];rcases E.stop with e | e | e <;> rw [e] <;> decide
theorem AH {i:Nat} (hi:i≤L.length):iA L' (p+i)=iA L i:=by
 unfold iA;rw [jM E hi,E.text (lJ hi)]
theorem Dw {i:Nat} (hi:i≤L.length):JA p L (gR L i) (gR L' (p+i)):=by
 intro v j h;have hj:=(lQ h).2.2.2;unfold gR at h ⊢;rw [AH E hi,jM E hi];split at h
 ·rename_i hn;rw [if_pos hn];injection h with h;injection h with h3 h4;subst h3 h4;exact⟨lJ hi,rfl⟩
 cases h
theorem Ge {i:Nat} (hi:i<L.length):JA p L (gK L i) (gK L' (p+i)):=by
 intro v j h;have hj:=(yB h).2;refine⟨hj,?_⟩;unfold gK at h ⊢;by_cases zO:pk L (aB lW L (i+1))=39
 ·have hl:aB lW L (i+1)<L.length:=bD (by omega);rw [if_pos zO]at h;rw [show p+i+1=p+(i+1) from rfl,E.run _ (i+1) rfl hi (.inl hl),E.pk hl,if_pos zO,E.text (Nat.le_of_lt hl)];injection h with h;injection h with h3 h4;subst h3 h4;rfl
 rw [if_neg zO]at h;cases h
theorem Hr {k:Nat} (hk:k≤L.length):kN (pk L' (p+k))=kN (pk L k):=by
 rcases Nat.lt_or_ge k L.length with hl | hl
 ·rw [E.pk hl]
 have e:k=L.length:=(by omega);subst e;rw [ri (Nat.le_refl _)];rcases E.stop with e | e | e <;> rw [e] <;> decide
theorem zq {a:Nat} (ha:a<L.length) {out:List aE} {cur:Int} (h:cE L a out cur=.ok none):cE L' (p+a) out cur=.ok none:=by
 unfold cE at h ⊢;rw [E.pk ha,show p+a+1=p+(a+1) from rfl,Hr E ha];by_cases vw:pk L a=124
 ·rw [if_pos vw]at h;split at h <;> first | cases h | (injection h with h;cases h)
 rw [if_neg vw]at h ⊢;by_cases lG:pk L a=91
 ·rw [if_pos lG]at h;split at h <;> first | cases h | (injection h with h;cases h)
 rw [if_neg lG]at h ⊢;by_cases lX:pk L a=36∧kN (pk L (a+1))=true
 ·rw [if_pos lX]at h;split at h <;> first | cases h | (injection h with h;cases h)
 rw [if_neg lX]at h ⊢;by_cases zO:pk L a=39
 ·rw [if_pos zO]at h;split at h <;> first | cases h | (injection h with h;cases h)
 rw [if_neg zO]at h ⊢;by_cases yT:pk L a=92∨dr (pk L a)=true
 ·rw [if_pos yT]at h;split at h
  ·cases h
  split at h <;> first | cases h | (injection h with h;cases h)
 rw [if_neg yT]
theorem Mj (hL:cH L) {a j:Nat} {out o:List aE} {cur c:Int} (h:cE L a out cur=.ok (some ((o,c),j))):a<j∧j≤L.length∧cE L' (p+a) out cur=.ok (some ((o,c),p+j)):=by
 have haj:=(xB hL h).1;have ha:a<L.length:=by
  refine bD (fun e=>?_);unfold cE at h;rw [e]at h;simp [dr]at h
 refine⟨haj,?_⟩;unfold cE at h ⊢;rw [E.pk ha,show p+a+1=p+(a+1) from rfl,Hr E ha];by_cases vw:pk L a=124
 ·rw [if_pos vw]at h ⊢;by_cases hc:0≤cur
  ·rw [if_pos hc]at h;cases h
  rw [if_neg hc]at h ⊢;injection h with h;injection h with h;injection h with h1 h2;injection h1 with h1 h3;subst h1 h2 h3;exact⟨ha,rfl⟩
 rw [if_neg vw]at h ⊢;by_cases lG:pk L a=91
 ·rw [if_pos lG]at h ⊢;cases hs:bI L 20 a with
  | error e=>rw [hs]at h;cases h
  | ok q=>
   obtain⟨s,k⟩:=q;obtain⟨_,hk,e1⟩:=Cy E hL 20 _ _ _ hs;rw [hs]at h;rw [e1];simp only at h ⊢;injection h with h;injection h with h;injection h with h1 h2;injection h1 with h1 h3;subst h1 h2 h3;exact⟨hk,rfl⟩
 rw [if_neg lG]at h ⊢;by_cases lX:pk L a=36∧kN (pk L (a+1))=true
 ·rw [if_pos lX]at h ⊢;cases hs:gR L (a+1)with
  | error e=>rw [hs]at h;cases h
  | ok q=>
   obtain⟨s,k⟩:=q;obtain⟨hk,e1⟩:=Dw E ha _ _ hs;rw [hs]at h;rw [e1];simp only at h ⊢;injection h with h;injection h with h;injection h with h1 h2;injection h1 with h1 h3;subst h1 h2 h3;exact⟨hk,rfl⟩
 rw [if_neg lX]at h ⊢;by_cases zO:pk L a=39
 ·rw [if_pos zO]at h ⊢;cases hs:gK L a with
  | error e=>rw [hs]at h;cases h
  | ok q=>
   obtain⟨s,k⟩:=q;obtain⟨hk,e1⟩:=Ge E ha _ _ hs;rw [hs]at h;rw [e1];simp only at h ⊢;injection h with h;injection h with h;injection h with h1 h2;injection h1 with h1 h3;subst h1 h2 h3;exact⟨hk,rfl⟩
 rw [if_neg zO]at h ⊢;by_cases yT:pk L a=92∨dr (pk L a)=true
 ·rw [if_pos yT]at h ⊢;cases hs:dh L a with
  | error e=>rw [hs]at h;cases h
  | ok q=>
   obtain⟨x,k⟩:=q;obtain⟨hk,e1⟩:=xR E _ _ _ hs;rw [hs]at h;rw [e1];simp only at h ⊢;by_cases hr:bg x=true
   ·rw [if_pos hr]at h ⊢;injection h with h;injection h with h;injection h with h1 h2;injection h1 with h1 h3;subst h1 h2 h3;exact⟨hk,rfl⟩
   rw [if_neg hr]at h;cases h
 rw [if_neg yT]at h;injection h with h;cases h
theorem JI (hL:cH L):∀ (f f' i:Nat) (out:List aE) (cur:Int) (v:List aE × Int) (j:Nat),f≤f'→i≤L.length→cQ L f i out cur=.ok (v,j)→i≤j∧j≤L.length∧(j<L.length→cQ L' f' (p+i) out cur=.ok (v,p+j)):=by
 intro f;induction f with
 | zero=>intro f' i out cur v j _ _ h;rw [cQ]at h;cases h
 | succ f ih=>
  intro f' i out cur v j hf hi h;obtain⟨f',rfl⟩:∃ g,f'=g+1:=⟨f' - 1,by omega⟩;have h0:=dG L i;have h1:=pF hi;rw [cQ]at h;cases he:cE L (az L i) out cur with
  | error e=>rw [he]at h;cases h
  | ok q=>
   rw [he]at h;cases q with
   | none=>
    simp only at h;injection h with h;injection h with h3 h4;subst h3 h4;exact⟨h0,h1,fun hj=>by rw [cQ,gF E _ i rfl hi (.inl hj),zq E hj he]⟩
   | some q=>
    obtain⟨⟨o,c⟩,k⟩:=q;simp only at h;by_cases h20:20<o.length
    ·rw [if_pos h20]at h;cases h
    rw [if_neg h20]at h;obtain⟨g1,g2,g3⟩:=Mj E hL he;obtain⟨k1,k2,k3⟩:=ih f' k o c v j (by omega) g2 h;refine⟨by omega,k2,fun hj=>?_⟩;rw [cQ,gF E _ i rfl hi (.inl (by omega)),g3];simp only;rw [if_neg h20];exact k3 hj
theorem lS (hL:cH L) {i:Nat} {v:List aE × Int} {j:Nat} (hi:i≤L.length) (h:cJ L i=.ok (v,j)):i≤j∧j≤L.length∧(j<L.length→cJ L' (p+i)=.ok (v,p+j)) :=
  JI E hL _ _ _ _ _ _ _ (by have:=E.len;omega) hi h
theorem MD (hL:cH L) {start:Bool} {a:Nat} {v:List aE × List aE × Int} {j:Nat} (ha:a≤L.length) (h:dZ L start a=.ok (v,j)):a≤j∧j≤L.length∧(j<L.length→dZ L' start (p+a)=.ok (v,p+j)):=by
 unfold dZ at h;cases hi:cJ L a with
 | error e=>rw [hi]at h;cases h
 | ok q=>
  obtain⟨⟨l,c⟩,j1⟩:=q;obtain⟨g1,g2,g3⟩:=lS E hL ha hi;rw [hi]at h;simp only at h;by_cases sH:pk L j1=123
  ·have kU:j1<L.length:=bD (by omega);rw [if_pos sH]at h;by_cases hc:0≤c
   ·rw [if_pos hc]at h;cases h
   rw [if_neg hc]at h;cases hi2:cJ L (j1+1)with
   | error e=>rw [hi2]at h;cases h
   | ok q=>
    obtain⟨⟨l2,c2⟩,j2⟩:=q;obtain⟨k1,k2,k3⟩:=lS E hL kU hi2;rw [hi2]at h;simp only at h;injection h with h;injection h with h3 h4;subst h3 h4;refine⟨by omega,k2,fun hj=>?_⟩;unfold dZ;rw [g3 kU];simp only;rw [E.pk kU,if_pos sH,if_neg hc,show p+j1+1=p+(j1+1) from rfl,k3 hj]
  rw [if_neg sH]at h;by_cases hs:start=true
  ·rw [if_pos hs]at h;cases h
  rw [if_neg hs]at h;injection h with h;injection h with h3 h4;subst h3 h4;refine⟨g1,g2,fun hj=>?_⟩;unfold dZ;rw [g3 hj];simp only;rw [E.pk hj,if_neg sH,if_neg hs]
theorem Et (hL:cH L) {i:Nat} {v:List aE × Bool} {j:Nat} (hi:i≤L.length) (h:eJ L i=.ok (v,j)):i≤j∧j≤L.length∧(j<L.length→eJ L' (p+i)=.ok (v,p+j)):=by
 unfold eJ at h;by_cases xH:pk L i=125
 ·have hl:i<L.length:=bD (by omega);rw [if_pos xH]at h;cases hi2:cJ L (i+1)with
  | error e=>rw [hi2]at h;cases h
  | ok q=>
   obtain⟨⟨l,c⟩,k⟩:=q;obtain⟨k1,k2,k3⟩:=lS E hL hl hi2;rw [hi2]at h;simp only at h;by_cases hc:0≤c
   ·rw [if_pos hc]at h;cases h
   rw [if_neg hc]at h;by_cases lX:pk L k=36
   ·have jo:k<L.length:=bD (by omega);rw [if_pos lX]at h;injection h with h;injection h with h3 h4;subst h3 h4;refine⟨by omega,jo,fun hj=>?_⟩;unfold eJ;rw [E.pk hl,if_pos xH,show p+i+1=p+(i+1) from rfl,k3 jo];simp only;rw [if_neg hc,E.pk jo,if_pos lX];rfl
   rw [if_neg lX]at h;injection h with h;injection h with h3 h4;subst h3 h4;refine⟨by omega,k2,fun hj=>?_⟩;unfold eJ;rw [E.pk hl,if_pos xH,show p+i+1=p+(i+1) from rfl,k3 hj];simp only;rw [if_neg hc,E.pk hj,if_neg lX]
 rw [if_neg xH]at h;injection h with h;injection h with h3 h4;subst h3 h4;refine⟨Nat.le_refl _,hi,fun hj=>?_⟩;unfold eJ;rw [E.pk hj,if_neg xH]
theorem Dp (hL:cH L) {i:Nat} {v:bY} {j:Nat} (hi:i≤L.length) (h:dU L i=.ok (v,j)):az L i≤j∧j≤L.length∧(j<L.length→dU L' (p+i)=.ok (v,p+j)):=by
 unfold dU at h;obtain⟨a0,ha0⟩:∃ a0,az L i=a0:=⟨_,rfl⟩;rw [ha0]at h;have abL:a0≤L.length:=(by rw [← ha0];exact pF hi);obtain⟨a1,mI⟩:∃ a1,(if pk L a0=94 then a0+1 else a0)=a1:=⟨_,rfl⟩;rw [mI]at h;have abz:a0≤a1∧a1≤L.length:=by
  rw [← mI];split
  ·rename_i pn;have:=bD (L:=L) (i:=a0) (by omega);omega
  exact⟨Nat.le_refl _,abL⟩
 cases hh:dZ L (decide (pk L a0=94)) a1 with
 | error e=>rw [hh]at h;cases h
 | ok q=>
  obtain⟨⟨b,s,c⟩,j1⟩:=q;obtain⟨g1,g2,g3⟩:=MD E hL abz.2 hh;rw [hh]at h;simp only at h;cases ht:eJ L j1 with
  | error e=>rw [ht]at h;cases h
  | ok q=>
   obtain⟨⟨a,fin⟩,k⟩:=q;obtain⟨k1,k2,k3⟩:=Et E hL g2 ht;rw [ht]at h;simp only at h;injection h with h;injection h with h3 h4;subst h3 h4;have h5:=dG L k;have h6:=pF k2;refine⟨by omega,h6,fun hj=>?_⟩;have E1:a0<L.length:=(by omega);unfold dU;rw [gF E _ i rfl hi (.inl (by omega)),ha0,E.pk E1,show(if pk L a0=94 then p+a0+1 else p+a0)=p+a1 by rw [← mI];split <;> rfl,g3 (by omega)];simp only;rw [k3 (by omega)];simp only;rw [gF E _ k rfl k2 (.inl hj)]
theorem AQ {i:Nat} {d:Int} {j:Nat} (h:ff L i=.ok (d,j)):i<j∧j≤L.length∧ff L' (p+i)=.ok (d,p+j):=by
 unfold ff at h ⊢;by_cases Kz:pk L i=62
 ·have hl:i<L.length:=bD (by omega);rw [if_pos Kz]at h;injection h with h;injection h with h3 h4;subst h3 h4;rw [E.pk hl,if_pos Kz];exact⟨by omega,hl,rfl⟩
 rw [if_neg Kz]at h;by_cases AW:pk L i=60∧pk L (i+1)=62
 ·have hl:i<L.length:=bD (by omega);have jo:i+1<L.length:=bD (by omega);rw [if_pos AW]at h;injection h with h;injection h with h3 h4;subst h3 h4;rw [E.pk hl,show p+i+1=p+(i+1) from rfl,E.pk jo,if_neg Kz,if_pos AW];exact⟨by omega,jo,rfl⟩
 rw [if_neg AW]at h;cases hn:aU L i 60 with
 | error e=>rw [hn]at h;cases h
 | ok k=>
  obtain⟨hk,e1⟩:=jO E hn (by decide);obtain⟨rfl,hp⟩:=gC hn;have hl:i<L.length:=hk;rw [hn]at h;simp only at h;injection h with h;injection h with h3 h4;subst h3 h4;have c1:=E.is (k:=i+1) hk (r:=62) (by decide) (by decide) (by decide);rw [E.pk hl,if_neg Kz,show p+i+1=p+(i+1) from rfl,if_neg (fun x=>AW ⟨x.1,c1.1 x.2⟩),e1];exact⟨by omega,hk,rfl⟩
theorem Mf (hL:cH L) {i:Nat} {v:aF} {j:Nat} (hi:i≤L.length) (h:jw L i=.ok (v,j)):i≤j∧j≤L.length∧(j<L.length→jw L' (p+i)=.ok (v,p+j)):=by
 unfold jw at h;cases hs:dU L i with
 | error e=>rw [hs]at h;cases h
 | ok q=>
  obtain⟨l,a⟩:=q;obtain⟨g1,g2,g3⟩:=Dp E hL hi hs;rw [hs]at h;simp only at h;cases ha:ff L a with
  | error e=>rw [ha]at h;cases h
  | ok q=>
   obtain⟨d,k⟩:=q;obtain⟨k1,k2,k3⟩:=AQ E ha;rw [ha]at h;simp only at h;cases nj:dU L k with
   | error e=>rw [nj]at h;cases h
   | ok q=>
    obtain⟨r,m⟩:=q;obtain⟨m1,m2,m3⟩:=Dp E hL k2 nj;rw [nj]at h;simp only at h;have h7:=dG L i;have h8:=dG L k;by_cases hw:gy ⟨2,eP,[],d,l,r⟩≠0
    ·rw [if_pos hw]at h;cases h
    rw [if_neg hw]at h;injection h with h;injection h with h3 h4;subst h3 h4;refine⟨by omega,m2,fun hj=>?_⟩;unfold jw;rw [g3 (by omega)];simp only;rw [k3];simp only;rw [m3 hj];simp only;rw [if_neg hw]
theorem Me (hL:cH L) {i:Nat} {v:aF} {j:Nat} (h:jq L i=.ok (v,j)):i≤j∧j≤L.length∧(j<L.length→jq L' (p+i)=.ok (v,p+j)):=by
 unfold jq at h;cases hn:aU L (i+1) 58 with
 | error e=>rw [hn]at h;cases h
 | ok a=>
  obtain⟨ha,e1⟩:=jO E hn (by decide);have h0:=(gC hn).1;rw [hn]at h;simp only at h;have h5:=dG L a;have h6:=pF ha;by_cases lG:pk L (az L a)=91
  ·have hl:az L a<L.length:=bD (by omega);rw [if_pos lG]at h;cases hs:bI L 20 (az L a)with
   | error e=>rw [hs]at h;cases h
   | ok q=>
    obtain⟨s,k⟩:=q;obtain⟨k0,k1,k2⟩:=Cy E hL 20 _ _ _ hs;rw [hs]at h;simp only at h;injection h with h;injection h with h3 h4;subst h3 h4;refine⟨by omega,k1,fun hj=>?_⟩;unfold jq;rw [show p+i+1=p+(i+1) from rfl,e1];simp only;rw [gF E _ a rfl ha (.inl hl),E.pk hl,if_pos lG,k2]
  rw [if_neg lG]at h;by_cases hb:kE (iA L (az L a))=true
  ·rw [if_pos hb]at h;injection h with h;injection h with h3 h4;subst h3 h4;have h7:=yj L (az L a);refine⟨by omega,lJ h6,fun hj=>?_⟩;have hl:az L a<L.length:=(by omega);unfold jq;rw [show p+i+1=p+(i+1) from rfl,e1];simp only;rw [gF E _ a rfl ha (.inl hl),E.pk hl,if_neg lG,AH E h6,if_pos hb,jM E h6]
  rw [if_neg hb]at h;cases h
theorem OP (hL:cH L) {i:Nat} {v:aF} {j:Nat} (hi:i<L.length) (h:oG L i=.ok (v,j)):i≤j∧j≤L.length∧(j<L.length→oG L' (p+i)=.ok (v,p+j)):=by
 unfold oG at h;cases hn:gR L (i+1)with
 | error e=>rw [hn]at h;cases h
 | ok q=>
  obtain⟨s,a⟩:=q;obtain⟨ha,e1⟩:=Dw E hi _ _ hn;have h0:=(lQ hn).1;rw [hn]at h;simp only at h;cases hq:aU L (az L a) 61 with
  | error e=>rw [hq]at h;cases h
  | ok k=>
   obtain⟨hk,e2⟩:=jO E hq (by decide);have h1:=(gC hq).1;have h2:=dG L a;rw [hq]at h;simp only at h;cases hs:bI L 20 (az L k)with
   | error e=>rw [hs]at h;cases h
   | ok q=>
    obtain⟨t,m⟩:=q;obtain⟨k0,k1,k2⟩:=Cy E hL 20 _ _ _ hs;have h4:=dG L k;rw [hs]at h;simp only at h;injection h with h;injection h with h3 h5;subst h3 h5;refine⟨by omega,k1,fun hj=>?_⟩;unfold oG;rw [show p+i+1=p+(i+1) from rfl,e1];simp only;rw [gF E _ a rfl ha (.inl (by omega)),e2];simp only;rw [gF E _ k rfl hk (.inl (by omega)),k2]
end
theorem C6 {L:List Int} (hL:cH L) {i:Nat} {v:bY} {j:Nat} (lX:pk L i=36) (h:dU L i=.ok (v,j)):j=i∨az L (bh L (i+1))≤j:=by
 have E:JO 0 L L:=⟨fun k _=>by rw [Nat.zero_add],.inr (.inr (by rw [Nat.zero_add];exact ri (Nat.le_refl _)))⟩;have e0:az L i=i:=Kl (by rw [lX];decide) (by rw [lX];decide);have hl:i<L.length:=bD (by omega);unfold dU at h;rw [e0,if_neg (by rw [lX];decide),show decide (pk L i=94)=false by rw [lX];decide]at h;unfold dZ at h;cases hi:cJ L i with
 | error e=>rw [hi]at h;cases h
 | ok q=>
  obtain⟨⟨l,c⟩,j1⟩:=q;have Q6:=lS E hL (Nat.le_of_lt hl) hi;have key:j1=i∨az L (bh L (i+1))≤j1:=by
   unfold cJ at hi;rw [cQ,e0]at hi;unfold cE at hi;rw [if_neg (by rw [lX];decide),if_neg (by rw [lX];decide)]at hi;by_cases hc:pk L i=36∧kN (pk L (i+1))=true
   ·rw [if_pos hc]at hi;cases hs:gR L (i+1)with
    | error e=>rw [hs]at hi;cases hi
    | ok q=>
     obtain⟨s,k⟩:=q;have hk:=(lQ hs).2.2.2;rw [hs]at hi;simp only at hi;split at hi
     ·cases hi
     have:=Ma hL _ _ _ _ _ _ hi;rw [hk]at this;exact .inr this
   rw [if_neg hc,if_neg (by rw [lX];decide),if_neg (by rw [lX];decide)]at hi;simp only at hi;injection hi with hi;injection hi with h3 h4;exact .inl h4.symm
  rw [hi]at h;simp only at h;rcases key with rfl | key
  ·rw [if_neg (by rw [lX];decide),if_neg (by decide)]at h;simp only at h;unfold eJ at h;rw [if_neg (by rw [lX];decide)]at h;simp only at h;injection h with h;injection h with h3 h4;rw [e0]at h4;exact .inl h4.symm
  right;have up:∀ (r:kS (List aE × List aE × Int)),(match r with | .error e=>Except.error e | .ok ((b,s,c),j)=>match eJ L j with | .error e=>.error e | .ok ((a,fin),k)=>.ok ((⟨false,fin,b,s,a,c⟩:bY),az L k))=.ok (v,j)→(∀ x k,r=.ok (x,k)→j1≤k∧k≤L.length)→j1≤j:=by
   intro r hr hk;cases r with
   | error e=>cases hr
   | ok q=>
    obtain⟨⟨b,s,c⟩,k⟩:=q;obtain⟨hk1,hk2⟩:=hk _ _ rfl;simp only at hr;cases ht:eJ L k with
    | error e=>rw [ht]at hr;cases hr
    | ok q=>
     obtain⟨⟨a,fin⟩,m⟩:=q;have hm:=(Et E hL hk2 ht).1;rw [ht]at hr;simp only at hr;injection hr with hr;injection hr with h3 h4;have:=dG L m;omega
  refine Nat.le_trans key (up _ h ?_);intro x k hk;split at hk
  ·rename_i sH;have kU:j1<L.length:=bD (by omega);split at hk
   ·cases hk
   cases hi2:cJ L (j1+1)with
   | error e=>rw [hi2]at hk;cases hk
   | ok q=>
    obtain⟨⟨l2,c2⟩,j2⟩:=q;have:=lS E hL kU hi2;rw [hi2]at hk;simp only at hk;injection hk with hk;injection hk with h3 h4;omega
  rw [if_neg (by decide)]at hk;injection hk with hk;injection hk with h3 h4;omega
theorem AY {p:Nat} {L L':List Int} (E:JO p L L') (hL:cH L) {i:Nat} {v:aF} {j:Nat} (hi:i≤L.length) (h:jr L i=.ok (v,j)):i≤j∧j≤L.length∧(j<L.length→jr L' (p+i)=.ok (v,p+j)):=by
 unfold jr at h;by_cases xj:pk L i=58
 ·rw [if_pos xj]at h;have hl:i<L.length:=bD (by omega);obtain⟨g1,g2,g3⟩:=Me E hL h;refine⟨g1,g2,fun hj=>?_⟩;unfold jr;rw [E.pk hl,if_pos xj];exact g3 hj
 rw [if_neg xj]at h;by_cases lX:pk L i=36∧pk L (az L (bh L (i+1)))=61
 ·rw [if_pos lX]at h;have hl:i<L.length:=bD (by omega);have jo:az L (bh L (i+1))<L.length:=bD (by omega);obtain⟨g1,g2,g3⟩:=OP E hL hl h;refine⟨g1,g2,fun hj=>?_⟩;unfold jr;rw [E.pk hl,if_neg xj,show p+i+1=p+(i+1) from rfl,jM E hl,gF E _ _ rfl (lJ hl) (.inl jo),E.pk jo,if_pos lX];exact g3 hj
 rw [if_neg lX]at h;obtain⟨g1,g2,g3⟩:=Mf E hL hi h;refine⟨g1,g2,fun hj=>?_⟩;have hl:i<L.length:=(by omega);unfold jr;rw [E.pk hl,if_neg xj,if_neg];exact g3 hj;rintro⟨x1,x2⟩;rw [show p+i+1=p+(i+1) from rfl,jM E hl]at x2;rcases Nat.lt_or_ge (az L (bh L (i+1))) L.length with hs | hs
 ·rw [gF E _ _ rfl (lJ hl) (.inl hs),E.pk hs]at x2;exact lX ⟨x1,x2⟩
 unfold jw at h;cases hsd:dU L i with
 | error e=>rw [hsd]at h;cases h
 | ok q=>
  obtain⟨l,a⟩:=q;rw [hsd]at h;simp only at h;cases ha:ff L a with
  | error e=>rw [ha]at h;cases h
  | ok q=>
   obtain⟨d,k⟩:=q;have hk:=(AQ E ha);rcases C6 hL x1 hsd with rfl | hge
   ·unfold ff at ha;rw [if_neg (by omega),if_neg (fun x=>by have:=x.1;omega),AU (by omega)]at ha;cases ha
   omega
theorem MR {L:List Int} (hL:cH L) {i:Nat} {v:aF} {j:Nat} (hi:i≤L.length) (h:jr L i=.ok (v,j)):i≤j∧j≤L.length:=by
 have E:JO 0 L L:=⟨fun k _=>by rw [Nat.zero_add],.inr (.inr (by rw [Nat.zero_add];exact ri (Nat.le_refl _)))⟩;exact⟨(AY E hL hi h).1,(AY E hL hi h).2.1⟩
theorem qC (A:Option Addr) (n c:Nat) (l:List aF) (w:World) (hn:n≤maxLen) (hl:Ee w w.heap.size A n l) :
    Calls Tryz.prog 63 #[.slice A n c] w fun e w'=>e=.returned (.agg #[.int .i64 (fP l).1,.int .i64 (fP l).2])∧Below w.heap.size w w':=by
 have aV:=qqh (kW.len hl);have HL:=qqh hl;have hn2:n≤9223372036854775807:=(by unfold maxLen at hn;omega);clear hl hn;by_cases h20:200<n
 ·have HP:=qqh (show fP l=(5,0) by unfold fP;rw [if_pos (by rw [aV.out];exact h20)]);go_enter Tryz.func63,Tryz.ntmps63;go_wp2_with fail;rw [HP.out];exact bodyPost_ret (v:=.agg #[.int .i64 5,.int .i64 0]) (by simp [results,Tryz.results63,go_sem]) rfl ⟨rfl,(Below.refl _ _).alloc (Nat.le_refl _) _⟩
 have HP:=qqh (show fP l=mN 0 l by unfold fP;rw [if_neg (by rw [aV.out];exact h20)]);go_enter Tryz.func63,Tryz.ntmps63;go_wp2_with fail;go_loopw [12] (VC w l n) (fun i _=>n - (intOf i).toNat);(case atStart=>exact⟨0,Nat.zero_le _,rfl,rfl,ai.new _ _ _,(Below.refl _ _).alloc (Nat.le_refl _) _⟩);obtain⟨k,hk,rfl,aX,hres,hb⟩:=hrel;have hz:=hb.size;have afA:=hres.lt;by_cases hlt:k<n
 ·obtain⟨p,hp⟩:∃ z,l[k]? = some z:=⟨_,List.getElem?_eq_getElem (by rw [aV.out];exact hlt)⟩;rw [cB hp,mN]at aX;obtain⟨b,off,A',n',c',L1,L2,L3,R1,R2,R3,a1,a2,a3,x1,x2,x3,b1,b2,b3,y1,y2,y3,rfl,dL,⟨f0,f1,f2,f3,f4,f5,f6,f7,f8,f9,f10,f11,f12,f13,f14,f15⟩,hs,hn',l1,l2,l3,Cw,yR,BG,r1,r2,r3,Co,yV,BW,cl,cr,hm⟩:=Ij HL.out hp;have d0:=(hb.cell (p:=⟨b,off+k*16,none⟩) dL).trans f0;have d1:=(hb.cell (p:=⟨b,off+k*16+1,none⟩) dL).trans f1;have d2:=(hb.cell (p:=⟨b,off+k*16+2,none⟩) dL).trans f2;have d3:=(hb.cell (p:=⟨b,off+k*16+3,none⟩) dL).trans f3;have d4:=(hb.cell (p:=⟨b,off+k*16+4,none⟩) dL).trans f4;have d5:=(hb.cell (p:=⟨b,off+k*16+5,none⟩) dL).trans f5;have d6:=(hb.cell (p:=⟨b,off+k*16+6,none⟩) dL).trans f6;have d7:=(hb.cell (p:=⟨b,off+k*16+7,none⟩) dL).trans f7;have d8:=(hb.cell (p:=⟨b,off+k*16+8,none⟩) dL).trans f8;have d9:=(hb.cell (p:=⟨b,off+k*16+9,none⟩) dL).trans f9;have d10:=(hb.cell (p:=⟨b,off+k*16+10,none⟩) dL).trans f10;have d11:=(hb.cell (p:=⟨b,off+k*16+11,none⟩) dL).trans f11;have d12:=(hb.cell (p:=⟨b,off+k*16+12,none⟩) dL).trans f12;have d13:=(hb.cell (p:=⟨b,off+k*16+13,none⟩) dL).trans f13;have d14:=(hb.cell (p:=⟨b,off+k*16+14,none⟩) dL).trans f14;have d15:=(hb.cell (p:=⟨b,off+k*16+15,none⟩) dL).trans f15;have HI:=qqh (fun w' (hw:Below w.heap.size w w')=>rS p A' n' c' L1 L2 L3 R1 R2 R3 a1 a2 a3 x1 x2 x3 b1 b2 b3 y1 y2 y3 w' (Rd.more (Rd.below hs hw) hw.size) hn' (aM l1 hw) (aM l2 hw) (aM l3 hw) Cw yR BG (aM r1 hw) (aM r2 hw) (aM r3 hw) Co yV BW);clear f0 f1 f2 f3 f4 f5 f6 f7 f8 f9 f10 f11 f12 f13 f14 f15 hs hn' l1 l2 l3 Cw yR BG r1 r2 r3 Co yV BW cl cr hm
  have b7:=qqh (hb.alloc hz (.cells #[.int .i64 p.kind,.string p.name,.slice A' n' c',.int .i64 p.dir,.bool p.left.start,.bool p.left.fin,.slice L1 a1 x1,.slice L2 a2 x2,.slice L3 a3 x3,.int .i64 p.left.aa,.bool p.right.start,.bool p.right.fin,.slice R1 b1 y1,.slice R2 b2 y2,.slice R3 b3 y3,.int .i64 p.right.aa] 97));have Oe:=qqh (hres.alloc (.cells #[.int .i64 p.kind,.string p.name,.slice A' n' c',.int .i64 p.dir,.bool p.left.start,.bool p.left.fin,.slice L1 a1 x1,.slice L2 a2 x2,.slice L3 a3 x3,.int .i64 p.left.aa,.bool p.right.start,.bool p.right.fin,.slice R1 b1 y1,.slice R2 b2 y2,.slice R3 b3 y3,.int .i64 p.right.aa] 97));by_cases hi:gy p=0
  ·rw [if_pos hi]at aX;have HG:=qqh aX;clear aX hres;go_wp2_with fail;refine(HI.out _ b7.out).mono ?_;rintro e w2 ⟨rfl,bu⟩;rw [hi];have hk2:=ai.below Oe.out bu Oe.out.lt;have bN:=b7.out.trans (bu.mono b7.out.size);have HK3:=qqh hk2;have bL:=qqh bN;clear bu bN hk2;go_wp2_with fail;exact⟨⟨k+1,by omega,by go_num,HG.out,HK3.out,bL.out⟩,by simp [intOf];omega⟩
  rw [if_neg hi]at aX;have hi2:(gy p != 0)=true:=(by simpa using hi);have HG:=qqh aX;clear aX hres hi;go_wp2_with fail;refine(HI.out _ b7.out).mono ?_;rintro e w2 ⟨rfl,bu⟩;have hk2:=ai.below Oe.out bu Oe.out.lt;have bN:=b7.out.trans (bu.mono b7.out.size);have q0:w2.cell? ⟨w.heap.size,0,none⟩=some (.int .i64 0):=hk2.cell 0;have q1:w2.cell? ⟨w.heap.size,1,none⟩=some (.int .i64 0):=hk2.cell 1;have q2:=hk2.frozen 0;have q3:=hk2.frozen 1;have bL:=qqh bN;clear bu bN hk2;go_wp2_with fail;rw [HP.out,HG.out];exact bodyPost_ret (v:=.agg #[.int .i64 (gy p),.int .i64 k]) (by simp [results,Tryz.results63,go_sem,q0,q1]) rfl ⟨rfl,(bL.out.setCell (by simp) _).setCell (by simp) _⟩
 obtain rfl:k=n:=(by omega);rw [List.drop_of_length_le (by rw [aV.out];omega)]at aX;have HG:=qqh (aX.trans (show mN k [] =(0,0) from rfl));have q0:wr.cell? ⟨w.heap.size,0,none⟩=some (.int .i64 0):=hres.cell 0;have q1:wr.cell? ⟨w.heap.size,1,none⟩=some (.int .i64 0):=hres.cell 1;have q2:=hres.frozen 0;have q3:=hres.frozen 1;clear aX hres;go_wp2_with fail;rw [HP.out,HG.out];exact bodyPost_ret (v:=.agg #[.int .i64 0,.int .i64 0]) (by simp [results,Tryz.results63,go_sem,q0,q1]) rfl ⟨rfl,(hb.setCell (by simp) _).setCell (by simp) _⟩
end Go.Proofs.YthgkedoildcbcaaGreatDoor
