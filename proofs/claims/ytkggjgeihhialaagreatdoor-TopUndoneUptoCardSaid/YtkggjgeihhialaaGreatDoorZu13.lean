/- PartWalk + PartAll + RulesP + RulesMono + RulesEmb + SpaceEq + RulesEmb2 + FileSyn -/
import Derived.Test.YtkggjgeihhialaaGreatDoorZu10
import Derived.Deep.RegionWith
import Derived.Test.YtkggjgeihhialaaGreatDoorZu8
import Derived.Test.YtkggjgeihhialaaGreatDoorZu11
set_option maxHeartbeats 1600000
set_option maxRecDepth 100000
namespace Go.Proofs.YtkggjgeihhialaaGreatDoor
open Go.RowKit
theorem Cp {w:World} {g:Nat} {t:TypeId} {cs:Array Value} (h:aj w g t cs):aj w.drew g t cs:=h
theorem Ni (name:ByteArray) (set:af) (left right:bW) (dir:Int) (A:Option Addr) (n c:Nat) (L1 L2 L3 R1 R2 R3:Option Addr) (a1 a2 a3 x1 x2 x3 b1 b2 b3 y1 y2 y3:Nat) (w:World) (hs:jz w w.heap.size A n set) (hn:n≤9223372036854775807) :
    Calls Tryz.prog 74 #[.agg #[.int .i64 1,.string name,.slice A n c,.int .i64 dir,.bool left.start,.bool left.fin,.slice L1 a1 x1,.slice L2 a2 x2,.slice L3 a3 x3,.int .i64 left.ag,.bool right.start,.bool right.fin,.slice R1 b1 y1,.slice R2 b2 y2,.slice R3 b3 y3,.int .i64 right.ag]] w fun e w'=>e=.returned (.int .i64 (if ek name=true then bC set else 7))∧Below w.heap.size w w':=by
 have HB:=qqh ((Below.refl w.heap.size w).alloc (Nat.le_refl _) (.cells #[.int .i64 1,.string name,.slice A n c,.int .i64 dir,.bool left.start,.bool left.fin,.slice L1 a1 x1,.slice L2 a2 x2,.slice L3 a3 x3,.int .i64 left.ag,.bool right.start,.bool right.fin,.slice R1 b1 y1,.slice R2 b2 y2,.slice R3 b3 y3,.int .i64 right.ag] 103));have HS:=qqh (sI hs (.cells #[.int .i64 1,.string name,.slice A n c,.int .i64 dir,.bool left.start,.bool left.fin,.slice L1 a1 x1,.slice L2 a2 x2,.slice L3 a3 x3,.int .i64 left.ag,.bool right.start,.bool right.fin,.slice R1 b1 y1,.slice R2 b2 y2,.slice R3 b3 y3,.int .i64 right.ag] 103));clear hs;cases hr:ek name
 ·go_enter Tryz.func74,Tryz.ntmps74;go_wp2_with (go_at_call 100;refine(i7 _ _).mono ?_;rintro e w' ⟨rfl,rfl⟩;rw [hr]);go_ret;exact⟨rfl,HB.out⟩
 go_enter Tryz.func74,Tryz.ntmps74;go_wp2_with (go_at_call 100;refine(i7 _ _).mono ?_;rintro e w' ⟨rfl,rfl⟩;rw [hr]);refine(hJ A n c set _ hn HS.out).mono ?_;rintro e w' ⟨rfl,hb⟩;go_wp2_with fail;go_ret;exact⟨rfl,HB.out.trans (hb.mono (by simp))⟩
theorem CJ (name:ByteArray) (set:af) (left right:bW) (dir:Int) (A:Option Addr) (n c:Nat) (L1 L2 L3 R1 R2 R3:Option Addr) (a1 a2 a3 x1 x2 x3 b1 b2 b3 y1 y2 y3:Nat) (w:World) (hs:jz w w.heap.size A n set) (hn:n≤9223372036854775807) :
    Calls Tryz.prog 74 #[.agg #[.int .i64 3,.string name,.slice A n c,.int .i64 dir,.bool left.start,.bool left.fin,.slice L1 a1 x1,.slice L2 a2 x2,.slice L3 a3 x3,.int .i64 left.ag,.bool right.start,.bool right.fin,.slice R1 b1 y1,.slice R2 b2 y2,.slice R3 b3 y3,.int .i64 right.ag]] w fun e w'=>e=.returned (.int .i64 (bC set))∧Below w.heap.size w w':=by
 have HB:=qqh ((Below.refl w.heap.size w).alloc (Nat.le_refl _) (.cells #[.int .i64 3,.string name,.slice A n c,.int .i64 dir,.bool left.start,.bool left.fin,.slice L1 a1 x1,.slice L2 a2 x2,.slice L3 a3 x3,.int .i64 left.ag,.bool right.start,.bool right.fin,.slice R1 b1 y1,.slice R2 b2 y2,.slice R3 b3 y3,.int .i64 right.ag] 103));have HS:=qqh (sI hs (.cells #[.int .i64 3,.string name,.slice A n c,.int .i64 dir,.bool left.start,.bool left.fin,.slice L1 a1 x1,.slice L2 a2 x2,.slice L3 a3 x3,.int .i64 left.ag,.bool right.start,.bool right.fin,.slice R1 b1 y1,.slice R2 b2 y2,.slice R3 b3 y3,.int .i64 right.ag] 103));clear hs;go_enter Tryz.func74,Tryz.ntmps74;go_wp2_with fail;refine(hJ A n c set _ hn HS.out).mono ?_;rintro e w' ⟨rfl,hb⟩;go_wp2_with fail;go_ret;exact⟨rfl,HB.out.trans (hb.mono (by simp))⟩
theorem Er (name:ByteArray) (left right:bW) (kind dir:Int) (A:Option Addr) (n c:Nat) (L1 L2 L3 R1 R2 R3:Option Addr) (a1 a2 a3 x1 x2 x3 b1 b2 b3 y1 y2 y3:Nat) (w:World) (k1:kind≠1) (k2:kind≠2) (k3:kind≠3) (k4:kind≠4) :
    Calls Tryz.prog 74 #[.agg #[.int .i64 kind,.string name,.slice A n c,.int .i64 dir,.bool left.start,.bool left.fin,.slice L1 a1 x1,.slice L2 a2 x2,.slice L3 a3 x3,.int .i64 left.ag,.bool right.start,.bool right.fin,.slice R1 b1 y1,.slice R2 b2 y2,.slice R3 b3 y3,.int .i64 right.ag]] w fun e w'=>e=.returned (.int .i64 (1))∧Below w.heap.size w w':=by
 have HB:=qqh ((Below.refl w.heap.size w).alloc (Nat.le_refl _) (.cells #[.int .i64 kind,.string name,.slice A n c,.int .i64 dir,.bool left.start,.bool left.fin,.slice L1 a1 x1,.slice L2 a2 x2,.slice L3 a3 x3,.int .i64 left.ag,.bool right.start,.bool right.fin,.slice R1 b1 y1,.slice R2 b2 y2,.slice R3 b3 y3,.int .i64 right.ag] 103));have e1:(kind == 1)=false:=(by simpa using k1);have e2:(kind == 2)=false:=(by simpa using k2);have e3:(kind == 3)=false:=(by simpa using k3);have e4:(kind == 4)=false:=(by simpa using k4);clear k1 k2 k3 k4;go_enter Tryz.func74,Tryz.ntmps74;go_wp2_with fail;go_ret;exact⟨rfl,HB.out⟩
theorem IK (name:ByteArray) (left right:bW) (dir:Int) (A:Option Addr) (n c:Nat) (L1 L2 L3 R1 R2 R3:Option Addr) (a1 a2 a3 x1 x2 x3 b1 b2 b3 y1 y2 y3:Nat) (w:World)  :
    Calls Tryz.prog 74 #[.agg #[.int .i64 4,.string name,.slice A n c,.int .i64 dir,.bool left.start,.bool left.fin,.slice L1 a1 x1,.slice L2 a2 x2,.slice L3 a3 x3,.int .i64 left.ag,.bool right.start,.bool right.fin,.slice R1 b1 y1,.slice R2 b2 y2,.slice R3 b3 y3,.int .i64 right.ag]] w fun e w'=>e=.returned (.int .i64 (if jL name=true then 0 else 7))∧Below w.heap.size w w':=by
 have HB:=qqh ((Below.refl w.heap.size w).alloc (Nat.le_refl _) (.cells #[.int .i64 4,.string name,.slice A n c,.int .i64 dir,.bool left.start,.bool left.fin,.slice L1 a1 x1,.slice L2 a2 x2,.slice L3 a3 x3,.int .i64 left.ag,.bool right.start,.bool right.fin,.slice R1 b1 y1,.slice R2 b2 y2,.slice R3 b3 y3,.int .i64 right.ag] 103));have c1:(w.alloc (.cells #[.int .i64 4,.string name,.slice A n c,.int .i64 dir,.bool left.start,.bool left.fin,.slice L1 a1 x1,.slice L2 a2 x2,.slice L3 a3 x3,.int .i64 left.ag,.bool right.start,.bool right.fin,.slice R1 b1 y1,.slice R2 b2 y2,.slice R3 b3 y3,.int .i64 right.ag] 103)).cell? ⟨w.heap.size,1,none⟩=some (.string name):=(aj.new _ _ _).cell 1;have hlt:w.heap.size<(w.alloc (.cells #[.int .i64 4,.string name,.slice A n c,.int .i64 dir,.bool left.start,.bool left.fin,.slice L1 a1 x1,.slice L2 a2 x2,.slice L3 a3 x3,.int .i64 left.ag,.bool right.start,.bool right.fin,.slice R1 b1 y1,.slice R2 b2 y2,.slice R3 b3 y3,.int .i64 right.ag] 103)).heap.size:=(by simp);cases hr:jL name
 all_goals
   have HR:=qqh hr
   clear hr
   go_enter Tryz.func74,Tryz.ntmps74
   go_wp2_with fail
   generalize w.alloc (.cells #[.int .i64 4,.string name,.slice A n c,.int .i64 dir,.bool left.start,.bool left.fin,.slice L1 a1 x1,.slice L2 a2 x2,.slice L3 a3 x3,.int .i64 left.ag,.bool right.start,.bool right.fin,.slice R1 b1 y1,.slice R2 b2 y2,.slice R3 b3 y3,.int .i64 right.ag] 103)=W0 at *
   go_region_with (first | (go_at_call 47;refine(iy _).mono ?_;rintro e w' ⟨rfl,rfl⟩) | (go_at_call 46;refine(qQ _ name _ HR.out _ (Cp (aj.new _ _ _))).mono ?_;rintro e w' ⟨rfl,rfl⟩))
   all_goals
     go_wp2_with fail
     go_ret
     exact⟨rfl,below_drewN (HB.out.alloc HB.out.size _) _⟩
theorem qV (p:aH) (A:Option Addr) (n c:Nat) (L1 L2 L3 R1 R2 R3:Option Addr) (a1 a2 a3 x1 x2 x3 b1 b2 b3 y1 y2 y3:Nat) (w:World) (hs:jz w w.heap.size A n p.set) (hn:n≤maxLen) (l1:bT w w.heap.size L1 a1 p.left.before) (l2:bT w w.heap.size L2 a2 p.left.source) (l3:bT w w.heap.size L3 a3 p.left.after) (Bo:a1≤maxLen) (xO:a2≤maxLen) (zQ:a3≤maxLen) (r1:bT w w.heap.size R1 b1 p.right.before) (r2:bT w w.heap.size R2 b2 p.right.source) (r3:bT w w.heap.size R3 b3 p.right.after) (AA:b1≤maxLen) (xL:b2≤maxLen) (Bk:b3≤maxLen)  :
    Calls Tryz.prog 74 #[.agg #[.int .i64 p.kind,.string p.name,.slice A n c,.int .i64 p.dir,.bool p.left.start,.bool p.left.fin,.slice L1 a1 x1,.slice L2 a2 x2,.slice L3 a3 x3,.int .i64 p.left.ag,.bool p.right.start,.bool p.right.fin,.slice R1 b1 y1,.slice R2 b2 y2,.slice R3 b3 y3,.int .i64 p.right.ag]] w fun e w'=>e=.returned (.int .i64 (fN p))∧Below w.heap.size w w':=by
 obtain⟨kind,name,set,dir,left,right⟩:=p;dsimp only at *;unfold fN;dsimp only;by_cases k1:kind=1
 ·subst k1;rw [if_pos rfl];exact Ni name set left right dir A n c L1 L2 L3 R1 R2 R3 a1 a2 a3 x1 x2 x3 b1 b2 b3 y1 y2 y3 w hs (by unfold maxLen at hn;omega)
 by_cases k3:kind=3
 ·subst k3;rw [if_neg k1,if_pos rfl];exact CJ name set left right dir A n c L1 L2 L3 R1 R2 R3 a1 a2 a3 x1 x2 x3 b1 b2 b3 y1 y2 y3 w hs (by unfold maxLen at hn;omega)
 by_cases k4:kind=4
 ·subst k4;rw [if_neg k1,if_neg k3,if_pos rfl];exact IK name left right dir A n c L1 L2 L3 R1 R2 R3 a1 a2 a3 x1 x2 x3 b1 b2 b3 y1 y2 y3 w
 by_cases k2:kind=2
 ·subst k2;rw [if_neg k1,if_neg k3,if_neg k4,if_pos rfl];by_cases hd:dir<1∨3<dir
  ·have e:cZ dir left right=1:=if_pos hd;rw [e];exact Lj name left right dir A n c L1 L2 L3 R1 R2 R3 a1 a2 a3 x1 x2 x3 b1 b2 b3 y1 y2 y3 w hd
  rcases (show dir=1∨dir=2∨dir=3 by omega)with rfl | rfl | rfl;exact Fu name left right A n c L1 L2 L3 R1 R2 R3 a1 a2 a3 x1 x2 x3 b1 b2 b3 y1 y2 y3 w l1 l2 l3 Bo xO zQ r1 r2 r3 AA xL Bk;exact EK name left right A n c L1 L2 L3 R1 R2 R3 a1 a2 a3 x1 x2 x3 b1 b2 b3 y1 y2 y3 w l1 l2 l3 Bo xO zQ r1 r2 r3 AA xL Bk;exact FW name left right A n c L1 L2 L3 R1 R2 R3 a1 a2 a3 x1 x2 x3 b1 b2 b3 y1 y2 y3 w l1 l2 l3 Bo xO zQ r1 r2 r3 AA xL Bk
 rw [if_neg k1,if_neg k3,if_neg k4,if_neg k2];exact Er name left right kind dir A n c L1 L2 L3 R1 R2 R3 a1 a2 a3 x1 x2 x3 b1 b2 b3 y1 y2 y3 w k1 k2 k3 k4
def qd (r:Int):Bool:=decide (0≤r) && !decide (r=10)
def eP (L:List Int):Nat→Nat→Nat
  | 0,i=>aP L i
  | f+1,i=>if pk L (aP L i)=35 then eP L f (aB qd L (aP L i))else aP L i
def az (L:List Int) (i:Nat):Nat:=eP L (L.length+1) i
def jW (r:Int):Bool:=(decide (97≤r) && decide (r≤122)) || decide (r=95)
def BA (r:Int):Bool:=decide (48≤r) && decide (r≤57)
def bk (L:List Int) (i:Nat):Nat:=if jW (pk L i)=true then aB (fun r=>jW r || BA r) L i else i
def gN (L:List Int) (i:Nat):ByteArray:=runesBytes (aN L i (bk L i))
def gn (L:List Int) (i:Nat):jS ByteArray:=if ek (gN L i)=true then .ok (gN L i,bk L i)else .error (7,i)
def kV (r:Int):Bool:=decide (0≤r) && !decide (r=39)
def eE:ByteArray:=⟨#[]⟩
def lW (x:Int):aG:=⟨1,x,[],eE⟩
def fV (L:List Int) (i:Nat):jS (List aG) :=
  if pk L (aB kV L (i+1))=39 then .ok ((aN L (i+1) (aB kV L (i+1))).map lW,aB kV L (i+1)+1)else .error (2,aB kV L (i+1))
def cy (L:List Int) (a:Nat) (out:List aG) (cur:Int):Except (Int × Nat) (Option ((List aG × Int) × Nat)) :=
  if pk L a=124 then (if 0≤cur then .error (5,a)else .ok (some ((out,(out.length:Int)),a+1)))
  else if pk L a=91 then match bH L 20 a with | .error e=>.error e | .ok (s,j)=>.ok (some ((out++[⟨2,0,s,eE⟩],cur),j))
  else if pk L a=36∧jW (pk L (a+1))=true then match gn L (a+1)with | .error e=>.error e | .ok (s,j)=>.ok (some ((out++[⟨3,0,[],s⟩],cur),j))
  else if pk L a=39 then match fV L a with | .error e=>.error e | .ok (l,j)=>.ok (some ((out++l,cur),j))
  else if pk L a=92∨dh (pk L a)=true then match dc L a with | .error e=>.error e | .ok (x,j)=>if b7 x=true then .ok (some ((out++[lW x],cur),j))else .error (3,a)
  else .ok none
def cM (L:List Int):Nat→Nat→List aG→Int→jS (List aG × Int)
  | 0,i,_,_=>.error (2,i)
  | f+1,i,out,cur=>match cy L (az L i) out cur with
    | .error e=>.error e
    | .ok none=>.ok ((out,cur),az L i)
    | .ok (some ((o,c),j))=>if 20<o.length then .error (5,az L i)else cM L f j o c
def cI (L:List Int) (i:Nat):jS (List aG × Int):=cM L (L.length+1) i [] (-1)
def dN (L:List Int) (start:Bool) (a:Nat):jS (List aG × List aG × Int) :=
  match cI L a with
  | .error e=>.error e
  | .ok ((l,c),j)=>
    if pk L j=123 then (if 0≤c then .error (8,a)else match cI L (j+1)with | .error e=>.error e | .ok ((l2,c2),j2)=>.ok ((l,l2,c2),j2))
    else if start=true then .error (2,j)else .ok (([],l,c),j)
def ej (L:List Int) (j:Nat):jS (List aG × Bool) :=
  if pk L j=125 then match cI L (j+1)with
    | .error e=>.error e
    | .ok ((l,c),k)=>if 0≤c then .error (8,j+1)else if pk L k=36 then .ok ((l,true),k+1)else .ok ((l,false),k)
  else .ok (([],false),j)
def dM (L:List Int) (i:Nat):jS bW :=
  match dN L (decide (pk L (az L i)=94)) (if pk L (az L i)=94 then az L i+1 else az L i)with
  | .error e=>.error e
  | .ok ((b,s,c),j)=>match ej L j with
    | .error e=>.error e
    | .ok ((a,fin),k)=>.ok (⟨decide (pk L (az L i)=94),fin,b,s,a,c⟩,az L k)
def eK (L:List Int) (i:Nat):jS Int :=
  if pk L i=62 then .ok (1,i+1)else if pk L i=60∧pk L (i+1)=62 then .ok (3,i+2)
  else match aT L i 60 with | .error e=>.error e | .ok j=>.ok (2,j)
def cX:bW:=⟨false,false,[],[],[],0⟩
def iQ (L:List Int) (i:Nat):jS aH :=
  match dM L i with
  | .error e=>.error e
  | .ok (l,j)=>match eK L j with
    | .error e=>.error e
    | .ok (d,k)=>match dM L k with
      | .error e=>.error e
      | .ok (r,m)=>if fN ⟨2,eE,[],d,l,r⟩≠0 then .error (fN ⟨2,eE,[],d,l,r⟩,i)else .ok (⟨2,eE,[],d,l,r⟩,m)
def iW (L:List Int) (i:Nat):jS aH :=
  match aT L (i+1) 58 with
  | .error e=>.error e
  | .ok j=>
    if pk L (az L j)=91 then match bH L 20 (az L j)with | .error e=>.error e | .ok (s,k)=>.ok (⟨3,eE,s,0,cX,cX⟩,k)
    else if jL (gN L (az L j))=true then .ok (⟨4,gN L (az L j),[],0,cX,cX⟩,bk L (az L j))else .error (7,az L j)
def nH (L:List Int) (i:Nat):jS aH :=
  match gn L (i+1)with
  | .error e=>.error e
  | .ok (s,j)=>match aT L (az L j) 61 with
    | .error e=>.error e
    | .ok k=>match bH L 20 (az L k)with | .error e=>.error e | .ok (t,m)=>.ok (⟨1,s,t,0,cX,cX⟩,m)
def iR (L:List Int) (i:Nat):jS aH :=
  if pk L i=58 then iW L i
  else if pk L i=36∧pk L (az L (bk L (i+1)))=61 then nH L i
  else iQ L i
def fZ (L:List Int):Nat→Nat→List aH→Except (Int × Nat) (List aH)
  | 0,i,_=>.error (2,i)
  | f+1,i,l=>
    if pk L (az L i)<0 then .ok l
    else if l.length=200 then .error (5,az L i)
    else match iR L (az L i)with
      | .error e=>.error e
      | .ok (p,j)=>match aT L (az L j) 59 with
        | .error e=>.error e
        | .ok k=>fZ L f k (l++[p])
def gW (L:List Int):List aH × (Int × Int) :=
  if 16000<L.length then ([],(4,0))
  else match fZ L (L.length+1) 0 []with
    | .error (e,p)=>([],(e,(p:Int)))
    | .ok l=>(l,(0,0))
theorem JU (L:List Int):∀ f i,i≤eP L f i:=by
 intro f;induction f with
 | zero=>exact fun i=>ez L i
 | succ f ih=>
  intro i;rw [eP];split;exact Nat.le_trans (ez L i) (Nat.le_trans (eO _ _ _) (ih _));exact ez L i
theorem rG {L:List Int} {i:Nat} (h:i≤L.length):aP L i≤L.length:=(gX h).2
theorem I6 (L:List Int):∀ f i,i≤L.length→eP L f i≤L.length:=by
 intro f;induction f with
 | zero=>exact fun i h=>rG h
 | succ f ih=>
  intro i h;rw [eP];split;exact ih _ (gX (rG h)).2;exact rG h
theorem dH (L:List Int) (i:Nat):i≤az L i:=JU L _ i
theorem nY {L:List Int} {i:Nat} (h:i≤L.length):az L i≤L.length:=I6 L _ i h
theorem wF (L:List Int) (i:Nat):i≤bk L i:=by
 unfold bk;split;exact eO _ _ _;exact Nat.le_refl _
theorem kz {L:List Int} {i:Nat} (h:i≤L.length):bk L i≤L.length:=by
 unfold bk;split;exact(gX h).2;exact h
theorem kR {L:List Int} {i j:Nat} {s:ByteArray} (h:gn L i=.ok (s,j)):i<j∧ek s=true∧s=gN L i∧j=bk L i:=by
 unfold gn at h;split at h
 ·rename_i hn;injection h with h;injection h with h1 h2;subst h1 h2;refine⟨?_,hn,rfl,rfl⟩;rcases Nat.lt_or_ge i (bk L i)with hl | hl;exact hl;have he:bk L i=i:=Nat.le_antisymm hl (wF L i);have ht:gN L i=runesBytes []:=by
   unfold gN aN;rw [he,Nat.sub_self];rfl
  rw [ht]at hn;exact absurd hn (by unfold ek;simp [show(runesBytes []).size=0 from rfl])
 cases h
theorem vn {L:List Int} {i j:Nat} {l:List aG} (h:fV L i=.ok (l,j)):i+1<j∧j≤L.length:=by
 unfold fV at h;split at h
 ·rename_i hn;injection h with h;injection h with h1 h2;have hlt:=bE (L:=L) (i:=aB kV L (i+1)) (by omega);have:=eO kV L (i+1);omega
 cases h
theorem xd {L:List Int} (hL:cA L) {a j:Nat} {out o:List aG} {cur c:Int} (h:cy L a out cur=.ok (some ((o,c),j))):a<j∧out.length≤o.length:=by
 unfold cy at h;split at h
 ·split at h
  ·cases h
  injection h with h;injection h with h;injection h with h1 h2;injection h1 with h1 h3;subst h1 h2;exact⟨by omega,Nat.le_refl _⟩
 split at h
 ·split at h
  ·cases h
  rename_i s j' hs;injection h with h;injection h with h;injection h with h1 h2;injection h1 with h1 h3;subst h1 h2;exact⟨(lE hL 20 _ _ _ hs).1,by simp⟩
 split at h
 ·split at h
  ·cases h
  rename_i s j' hs;injection h with h;injection h with h;injection h with h1 h2;injection h1 with h1 h3;subst h1 h2;have:=(kR hs).1;exact⟨by omega,by simp⟩
 split at h
 ·split at h
  ·cases h
  rename_i s j' hs;injection h with h;injection h with h;injection h with h1 h2;injection h1 with h1 h3;subst h1 h2;have:=(vn hs).1;exact⟨by omega,by simp⟩
 split at h
 ·split at h
  ·cases h
  rename_i x j' hs;split at h
  ·injection h with h;injection h with h;injection h with h1 h2;injection h1 with h1 h3;subst h1 h2;exact⟨(nu hL hs).1,by simp⟩
  cases h
 injection h with h;cases h
structure Is (p:Nat) (L L':List Int):Prop where
  here:∀ k,k<L.length→L'[p+k]? = L[k]?
  stop:pk L' (p+L.length)=10∨pk L' (p+L.length)=32∨pk L' (p+L.length) = -1
def II {α:Type} (p:Nat) (L:List Int) (r r':jS α):Prop:=∀ v j,r=.ok (v,j)→j≤L.length∧r'=.ok (v,p+j)
section
variable {p : Nat} {L L' : List Int} (E : Is p L L')
include E
theorem Is.pk {k:Nat} (hk:k<L.length):pk L' (p+k)=pk L k:=by
 unfold Go.Proofs.YtkggjgeihhialaaGreatDoor.pk;rw [E.here k hk]
theorem Is.is {k:Nat} (hk:k≤L.length) {r:Int} (h1:r≠10) (h2:r ≠ -1) (h3:r≠32):Go.Proofs.YtkggjgeihhialaaGreatDoor.pk L' (p+k)=r↔Go.Proofs.YtkggjgeihhialaaGreatDoor.pk L k=r:=by
 rcases Nat.lt_or_ge k L.length with hl | hl
 ·rw [E.pk hl]
 have hk:k=L.length:=(by omega);subst hk;rw [pW (Nat.le_refl _)];rcases E.stop with e | e | e <;> rw [e] <;> constructor <;> intro h' <;> omega
theorem Is.lt {k:Nat} (hk:k<L.length):p+k<L'.length:=by
 have:=E.here k hk;rw [List.getElem?_eq_getElem hk]at this;exact(List.getElem?_eq_some_iff.1 this).1
theorem Is.len:L.length≤L'.length:=by
 rcases Nat.eq_zero_or_pos L.length with h | h;omega;have:=E.lt (k:=L.length - 1) (by omega);omega
theorem Is.run {q:Int→Bool}:∀ (d i:Nat),L.length - i=d→i≤L.length→(aB q L i<L.length∨q (Go.Proofs.YtkggjgeihhialaaGreatDoor.pk L' (p+L.length))=false)→aB q L' (p+i)=p+aB q L i:=by
 intro d;induction d with
 | zero=>
  intro i hd hi hq;have e:i=L.length:=(by omega);subst e;have e2:aB q L L.length=L.length:=cV (fun h=>absurd h (Nat.lt_irrefl _));rw [e2]at hq ⊢;rcases hq with hq | hq;omega;exact cV (fun _=>hq)
 | succ d ih=>
  intro i hd hi hq;have hl:i<L.length:=(by omega);cases hv:q (Go.Proofs.YtkggjgeihhialaaGreatDoor.pk L i)with
  | true=>
   rw [dR hl hv]at hq ⊢;rw [dR (E.lt hl) (by rw [E.pk hl];exact hv),Nat.add_assoc];exact ih (i+1) (by omega) (by omega) hq
  | false=>rw [cV (fun _=>hv),cV (fun _=>by rw [E.pk hl];exact hv)]
theorem Is.Re {q:Int→Bool} (h1:q 10=false) (h2:q 32=false) (h3:q (-1)=false) {i:Nat} (hi:i≤L.length):aB q L' (p+i)=p+aB q L i:=by
 refine E.run _ i rfl hi (.inr ?_);rcases E.stop with e | e | e <;> rw [e] <;> assumption
theorem Is.skip {i:Nat} (hi:i≤L.length) (h:aP L i<L.length):aP L' (p+i)=p+aP L i:=E.run _ i rfl hi (.inl h)
theorem Is.text {i j:Nat} (hj:j≤L.length):aN L' (p+i) (p+j)=aN L i j:=by
 unfold aN;rw [show p+j - (p+i)=j - i by omega];apply List.ext_getElem?;intro k;rcases Nat.lt_or_ge k (j - i)with hk | hk
 ·rw [List.getElem?_take_of_lt hk,List.getElem?_take_of_lt hk,List.getElem?_drop,List.getElem?_drop,Nat.add_assoc];exact E.here _ (by omega)
 rw [List.getElem?_take_eq_none hk,List.getElem?_take_eq_none hk]
theorem jq {i j:Nat} {r:Int} (h:aT L i r=.ok j) (hr:r ≠ -1):j≤L.length∧aT L' (p+i) r=.ok (p+j):=by
 obtain⟨rfl,hp⟩:=fQ h;have hl:i<L.length:=bE (by rw [hp];exact hr);refine⟨hl,?_⟩;rw [LH (by rw [E.pk hl];exact hp)];rfl
theorem OJ (i:Nat):II p L (kJ L i) (kJ L' (p+i)):=by
 intro v j h;unfold kJ at h ⊢;cases h1:aT L (i+1) 123 with
 | error e=>rw [h1]at h;cases h
 | ok a=>
  obtain⟨ha,e1⟩:=jq E h1 (by decide);rw [h1]at h;rw [show p+i+1=p+(i+1) from rfl,e1];simp only at h ⊢;rw [E.Re rfl rfl rfl ha,show p+aB eT L a - (p+a)=aB eT L a - a by omega];by_cases hn:aB eT L a - a<1∨6<aB eT L a - a
  ·rw [if_pos hn]at h;cases h
  rw [if_neg hn]at h ⊢;cases h2:aT L (aB eT L a) 125 with
  | error e=>rw [h2]at h;cases h
  | ok b=>
   obtain⟨hb,e2⟩:=jq E h2 (by decide);rw [h2]at h;rw [e2];simp only at h ⊢;rw [E.text (gX ha).2];by_cases hm:1114111<eo (aN L a (aB eT L a))
   ·rw [if_pos hm]at h;cases h
   rw [if_neg hm]at h ⊢;injection h with h;injection h with h3 h4;subst h3 h4;exact⟨hb,rfl⟩
theorem xx (i:Nat):II p L (dc L i) (dc L' (p+i)):=by
 intro v j h;unfold dc at h ⊢;by_cases hp:dh (Go.Proofs.YtkggjgeihhialaaGreatDoor.pk L i)=true
 ·have hl:i<L.length:=bE (fun e=>by rw [e]at hp;exact absurd hp (by decide));rw [if_pos hp]at h;rw [E.pk hl,if_pos hp];injection h with h;injection h with h3 h4;subst h3 h4;exact⟨hl,rfl⟩
 rw [if_neg hp]at h;by_cases xR:Go.Proofs.YtkggjgeihhialaaGreatDoor.pk L i≠92
 ·rw [if_pos xR]at h;cases h
 rw [if_neg xR]at h;have hl:i<L.length:=bE (by omega);rw [E.pk hl,if_neg hp,if_neg xR];have ja:i+1<L.length:=bE (fun e=>by rw [e]at h;simp at h);rw [show p+i+1=p+(i+1) from rfl,E.pk ja];by_cases c1:Go.Proofs.YtkggjgeihhialaaGreatDoor.pk L (i+1)=110
 ·rw [if_pos c1]at h ⊢;injection h with h;injection h with h3 h4;subst h3 h4;exact⟨ja,rfl⟩
 rw [if_neg c1]at h ⊢;by_cases c2:Go.Proofs.YtkggjgeihhialaaGreatDoor.pk L (i+1)=116
 ·rw [if_pos c2]at h ⊢;injection h with h;injection h with h3 h4;subst h3 h4;exact⟨ja,rfl⟩
 rw [if_neg c2]at h ⊢;by_cases c3:Go.Proofs.YtkggjgeihhialaaGreatDoor.pk L (i+1)=117
 ·rw [if_pos c3]at h ⊢;exact OJ E _ _ _ h
 rw [if_neg c3]at h ⊢;by_cases c4:Go.Proofs.YtkggjgeihhialaaGreatDoor.pk L (i+1)<0∨FN (Go.Proofs.YtkggjgeihhialaaGreatDoor.pk L (i+1))=true
 ·rw [if_pos c4]at h;cases h
 rw [if_neg c4]at h ⊢;injection h with h;injection h with h3 h4;subst h3 h4;exact⟨ja,rfl⟩
theorem KW (i:Nat):II p L (jd L i) (jd L' (p+i)):=by
 intro v j h;unfold jd at h ⊢;cases h1:dc L i with
 | error e=>rw [h1]at h;cases h
 | ok q=>
  obtain⟨low,a⟩:=q;obtain⟨ha,e1⟩:=xx E _ _ _ h1;rw [h1]at h;rw [e1];simp only at h ⊢;have c1:(Go.Proofs.YtkggjgeihhialaaGreatDoor.pk L' (p+a)=45∧Go.Proofs.YtkggjgeihhialaaGreatDoor.pk L' (p+a+1)≠91)↔(Go.Proofs.YtkggjgeihhialaaGreatDoor.pk L a=45∧Go.Proofs.YtkggjgeihhialaaGreatDoor.pk L (a+1)≠91):=by
   rw [E.is ha (by decide) (by decide) (by decide)];refine and_congr_right (fun R9=>?_);have hl:a<L.length:=bE (by omega);exact not_congr (E.is (k:=a+1) hl (by decide) (by decide) (by decide))
  by_cases hc:Go.Proofs.YtkggjgeihhialaaGreatDoor.pk L a=45∧Go.Proofs.YtkggjgeihhialaaGreatDoor.pk L (a+1)≠91
  ·rw [if_pos hc]at h;rw [if_pos (c1.2 hc)];cases h2:dc L (a+1)with
   | error e=>rw [h2]at h;cases h
   | ok q=>
    obtain⟨high,b⟩:=q;obtain⟨hb,e2⟩:=xx E _ _ _ h2;rw [h2]at h;rw [show p+a+1=p+(a+1) from rfl,e2];simp only at h ⊢;by_cases hh:high<low
    ·rw [if_pos hh]at h;cases h
    rw [if_neg hh]at h ⊢;injection h with h;injection h with h3 h4;subst h3 h4;exact⟨hb,rfl⟩
  rw [if_neg hc]at h;rw [if_neg (fun x=>hc (c1.1 x))];injection h with h;injection h with h3 h4;subst h3 h4;exact⟨ha,rfl⟩
theorem Jv {i:Nat} (hi:i+2≤L.length):II p L (eJ L i) (eJ L' (p+i)):=by
 intro v j h;unfold eJ at h ⊢;rw [show p+i+2=p+(i+2) from rfl,E.Re rfl rfl rfl hi,E.text (gX hi).2];cases h0:gz (aN L (i+2) (aB dh L (i+2)))with
 | none=>rw [h0]at h;cases h
 | some s=>
  rw [h0]at h;simp only at h ⊢;cases h1:aT L (aB dh L (i+2)) 58 with
  | error e=>rw [h1]at h;cases h
  | ok a=>
   obtain⟨ha,e1⟩:=jq E h1 (by decide);rw [h1]at h;rw [e1];simp only at h ⊢;cases h2:aT L a 93 with
   | error e=>rw [h2]at h;cases h
   | ok b=>
    obtain⟨hb,e2⟩:=jq E h2 (by decide);rw [h2]at h;rw [e2];simp only at h ⊢;injection h with h;injection h with h3 h4;subst h3 h4;exact⟨hb,rfl⟩
def Sb (p:Nat) (L:List Int) (inner inner':Nat→jS af):Prop:=∀ i s j,inner i=.ok (s,j)→i<j∧j≤L.length∧inner' (p+i)=.ok (s,p+j)
theorem MW {inner inner':Nat→jS af} (hI:Sb p L inner inner') (i:Nat) (s:af) (j:Nat) (h:dB inner L i=.ok (s,j)):i<L.length∧j≤L.length∧dB inner' L' (p+i)=.ok (s,p+j):=by
 have hl:i<L.length:=by
  refine bE (fun e=>?_);unfold dB at h;rw [if_neg (fun x=>by have:=x.1;omega),if_neg (by omega),if_neg (by omega)]at h;unfold jd dc at h;rw [e]at h;simp [dh]at h
 refine⟨hl,?_⟩;unfold dB at h ⊢;rw [E.pk hl,show p+i+1=p+(i+1) from rfl];have c1:=E.is (k:=i+1) hl (r:=58) (by decide) (by decide) (by decide);by_cases hc:Go.Proofs.YtkggjgeihhialaaGreatDoor.pk L i=91∧Go.Proofs.YtkggjgeihhialaaGreatDoor.pk L (i+1)=58
 ·rw [if_pos hc]at h;rw [if_pos ⟨hc.1,c1.2 hc.2⟩];have ja:i+1<L.length:=bE (by omega);exact Jv E ja _ _ h
 rw [if_neg hc]at h;rw [if_neg (fun x=>hc ⟨x.1,c1.1 x.2⟩)];by_cases ko:Go.Proofs.YtkggjgeihhialaaGreatDoor.pk L i=91
 ·rw [if_pos ko]at h ⊢;exact(hI _ _ _ h).2
 rw [if_neg ko]at h ⊢;by_cases Qe:Go.Proofs.YtkggjgeihhialaaGreatDoor.pk L i=38∨Go.Proofs.YtkggjgeihhialaaGreatDoor.pk L i=45
 ·rw [if_pos Qe]at h ⊢;obtain⟨g1,g2,g3⟩:=hI _ _ _ h;rw [E.skip (i:=i+1) hl (by omega)];exact⟨g2,g3⟩
 rw [if_neg Qe]at h ⊢;cases h1:jd L i with
 | error e=>rw [h1]at h;cases h
 | ok q=>
  obtain⟨x,a⟩:=q;obtain⟨ha,e1⟩:=KW E _ _ _ h1;rw [h1]at h;rw [e1];simp only at h ⊢;injection h with h;injection h with h3 h4;subst h3 h4;exact⟨ha,rfl⟩
theorem Jp {inner inner':Nat→jS af} (hI:Sb p L inner inner'):∀ (f f' i:Nat) (cur s:af) (j:Nat),f≤f'→i≤L.length→dQ inner L f i cur=.ok (s,j)→j≤L.length∧dQ inner' L' f' (p+i) cur=.ok (s,p+j):=by
 intro f;induction f with
 | zero=>intro f' i cur s j _ _ h;unfold dQ at h;cases h
 | succ f ih=>
  intro f' i cur s j hf hi h;obtain⟨f',rfl⟩:∃ g,f'=g+1:=⟨f' - 1,by omega⟩;rw [dQ]at h ⊢;by_cases Pe:Go.Proofs.YtkggjgeihhialaaGreatDoor.pk L (aP L i)=93
  ·have hl:aP L i<L.length:=bE (by omega);rw [if_pos Pe]at h;rw [E.skip hi hl,E.pk hl,if_pos Pe];injection h with h;injection h with h3 h4;subst h3 h4;exact⟨hl,rfl⟩
  rw [if_neg Pe]at h;cases h1:dB inner L (aP L i)with
  | error e=>rw [h1]at h;cases h
  | ok q=>
   obtain⟨t,a⟩:=q;obtain⟨hl,ha,e1⟩:=MW E hI _ _ _ h1;rw [h1]at h;rw [E.skip hi hl,E.pk hl,if_neg Pe,e1];simp only at h ⊢;by_cases hw:(mz (uy (Go.Proofs.YtkggjgeihhialaaGreatDoor.pk L (aP L i))) cur t).2≠0
   ·rw [if_pos hw]at h;cases h
   rw [if_neg hw]at h ⊢;exact ih f' a _ _ _ (by omega) ha h
theorem BE (hL:cA L):∀ n,Sb p L (bH L n) (bH L' n):=by
 intro n;induction n with
 | zero=>intro i s j h;unfold bH at h;cases h
 | succ n ih=>
  intro i s j h;refine⟨(lE hL (n+1) i s j h).1,?_⟩;rw [bH]at h ⊢;cases h1:aT L i 91 with
  | error e=>rw [h1]at h;cases h
  | ok a=>
   obtain⟨ha,e1⟩:=jq E h1 (by decide);rw [h1]at h;rw [e1];simp only at h ⊢;have c1:=E.is ha (r:=94) (by decide) (by decide) (by decide);have hst:(if Go.Proofs.YtkggjgeihhialaaGreatDoor.pk L' (p+a)=94 then p+a+1 else p+a)=p+(if Go.Proofs.YtkggjgeihhialaaGreatDoor.pk L a=94 then a+1 else a):=by
    by_cases nP:Go.Proofs.YtkggjgeihhialaaGreatDoor.pk L a=94
    ·rw [if_pos nP,if_pos (c1.2 nP)];rfl
    rw [if_neg nP,if_neg (fun x=>nP (c1.1 x))]
   rw [hst];have Rn:(if Go.Proofs.YtkggjgeihhialaaGreatDoor.pk L a=94 then a+1 else a)≤L.length:=by
    split
    ·rename_i nP;exact bE (by omega)
    exact ha
   cases h2:dQ (bH L n) L (L.length+1) (if Go.Proofs.YtkggjgeihhialaaGreatDoor.pk L a=94 then a+1 else a) []with
   | error e=>rw [h2]at h;cases h
   | ok q=>
    obtain⟨cur,k⟩:=q;obtain⟨hk,e2⟩:=Jp E ih _ (L'.length+1) _ _ _ _ (by have:=E.len;omega) Rn h2;rw [h2]at h;rw [e2];simp only at h ⊢;by_cases nP:Go.Proofs.YtkggjgeihhialaaGreatDoor.pk L a=94
    ·rw [if_pos nP]at h;rw [if_pos (c1.2 nP)];by_cases hw:(mz 94 cur []).2≠0
     ·rw [if_pos hw]at h;cases h
     rw [if_neg hw]at h ⊢;injection h with h;injection h with h3 h4;subst h3 h4;exact⟨hk,rfl⟩
    rw [if_neg nP]at h;rw [if_neg (fun x=>nP (c1.1 x))];injection h with h;injection h with h3 h4;subst h3 h4;exact⟨hk,rfl⟩
end
theorem yK (L:List Int):∀ f g i,L.length<f+i→L.length<g+i→eP L f i=eP L g i:=by
 have key:∀ g i,L.length<i→eP L g i=aP L i:=by
  intro g i h;cases g with
  | zero=>rfl
  | succ g=>
   rw [eP,if_neg];have e:aP L i=i:=cV (fun h2=>absurd h2 (by omega));rw [e,pW (by omega)];decide
 intro f;induction f with
 | zero=>intro g i h1 h2;rw [key 0 i (by omega),key g i (by omega)]
 | succ f ih=>
  intro g i h1 h2;cases g with
  | zero=>rw [key 0 i (by omega),key (f+1) i (by omega)]
  | succ g=>
   rw [eP,eP];by_cases sM:pk L (aP L i)=35
   ·rw [if_pos sM,if_pos sM];have hl:aP L i<L.length:=bE (by omega);have h3:=ez L i;have h4:aP L i+1≤aB qd L (aP L i):=(by rw [dR hl (by rw [sM];rfl)];exact eO _ _ _);exact ih g _ (by omega) (by omega)
   rw [if_neg sM,if_neg sM]
theorem MI {L:List Int} {k:Nat} (sM:pk L k=35):k<L.length∧k+1≤aB qd L k:=by
 have hl:k<L.length:=bE (by omega);exact⟨hl,by rw [dR hl (by rw [sM];rfl)];exact eO _ _ _⟩
theorem nR (L:List Int) (i:Nat):az L i=if pk L (aP L i)=35 then az L (aB qd L (aP L i))else aP L i:=by
 show eP L (L.length+1) i=_;rw [eP];by_cases sM:pk L (aP L i)=35
 ·rw [if_pos sM,if_pos sM];have:=(MI sM).2;exact yK L _ _ _ (by omega) (by omega)
 rw [if_neg sM,if_neg sM]
theorem IG {L:List Int} {i:Nat} (h1:pz (pk L i)=false) (h2:pk L i≠35):az L i=i:=by
 have e:aP L i=i:=cV (fun _=>h1);rw [nR,e,if_neg h2]
theorem Me {L:List Int} (hL:cA L):∀ (f i:Nat) (out:List aG) (cur:Int) (v:List aG × Int) (j:Nat),cM L f i out cur=.ok (v,j)→az L i≤j:=by
 intro f;induction f with
 | zero=>intro i out cur v j h;rw [cM]at h;cases h
 | succ f ih=>
  intro i out cur v j h;rw [cM]at h;cases he:cy L (az L i) out cur with
  | error e=>rw [he]at h;cases h
  | ok q=>
   rw [he]at h;cases q with
   | none=>simp only at h;injection h with h;injection h with h1 h2;omega
   | some q=>
    obtain⟨⟨o,c⟩,k⟩:=q;simp only at h;by_cases h20:20<o.length
    ·rw [if_pos h20]at h;cases h
    rw [if_neg h20]at h;have h1:=(xd hL he).1;have h2:=ih _ _ _ _ _ h;have h3:=dH L k;omega
section
variable {p : Nat} {L L' : List Int} (E : Is p L L')
include E
theorem fS:∀ (d i:Nat),L.length - i=d→i≤L.length→(az L i<L.length∨pk L' (p+L.length) = -1)→az L' (p+i)=p+az L i:=by
 intro d;induction d using Nat.strongRecOn with
 | _ d ih=>
  intro i hd hi hq;rw [nR L i]at hq;rw [nR L i,nR L' (p+i)];by_cases sM:pk L (aP L i)=35
  ·obtain⟨hl,hm⟩:=MI sM;rw [if_pos sM]at hq ⊢;rw [E.skip hi hl,E.pk hl,if_pos sM];have h1:=ez L i;have h2:aB qd L (aP L i)≤L.length:=(gX (Nat.le_of_lt hl)).2;have h3:=dH L (aB qd L (aP L i));rw [E.run _ _ rfl (Nat.le_of_lt hl) (by rcases hq with hq | hq;exact .inl (by omega);exact .inr (by rw [hq];rfl))];exact ih _ (by omega) _ rfl h2 hq
  rw [if_neg sM]at hq ⊢;have hs:aP L i≤L.length:=rG hi;have e:aP L' (p+i)=p+aP L i:=E.run _ i rfl hi (by rcases hq with hq | hq;exact .inl hq;exact .inr (by rw [hq];rfl));rw [e,if_neg];rcases Nat.lt_or_ge (aP L i) L.length with hl | hl
  ·rw [E.pk hl];exact sM
  rcases hq with hq | hq;omega;rw [show aP L i=L.length by omega,hq];decide
theorem jg {i:Nat} (hi:i≤L.length):bk L' (p+i)=p+bk L i:=by
 unfold bk;rcases Nat.lt_or_ge i L.length with hl | hl
 ·rw [E.pk hl];split;exact E.Re (by decide) (by decide) (by decide) hi;rfl
 have e:i=L.length:=(by omega);subst e;rw [pW (Nat.le_refl _),if_neg (by decide:¬ jW (-1)=true),if_neg];rcases E.stop with e | e | e <;> rw [e] <;> decide
theorem zu {i:Nat} (hi:i≤L.length):gN L' (p+i)=gN L i:=by
 unfold gN;rw [jg E hi,E.text (kz hi)]
theorem CX {i:Nat} (hi:i≤L.length):II p L (gn L i) (gn L' (p+i)):=by
 intro v j h;have hj:=(kR h).2.2.2;unfold gn at h ⊢;rw [zu E hi,jg E hi];split at h
 ·rename_i hn;rw [if_pos hn];injection h with h;injection h with h3 h4;subst h3 h4;exact⟨kz hi,rfl⟩
 cases h
theorem E9 {i:Nat} (hi:i<L.length):II p L (fV L i) (fV L' (p+i)):=by
 intro v j h;have hj:=(vn h).2;refine⟨hj,?_⟩;unfold fV at h ⊢;by_cases yy:pk L (aB kV L (i+1))=39
 ·have hl:aB kV L (i+1)<L.length:=bE (by omega);rw [if_pos yy]at h;rw [show p+i+1=p+(i+1) from rfl,E.run _ (i+1) rfl hi (.inl hl),E.pk hl,if_pos yy,E.text (Nat.le_of_lt hl)];injection h with h;injection h with h3 h4;subst h3 h4;rfl
 rw [if_neg yy]at h;cases h
theorem Gj {k:Nat} (hk:k≤L.length):jW (pk L' (p+k))=jW (pk L k):=by
 rcases Nat.lt_or_ge k L.length with hl | hl
 ·rw [E.pk hl]
 have e:k=L.length:=(by omega);subst e;rw [pW (Nat.le_refl _)];rcases E.stop with e | e | e <;> rw [e] <;> decide
theorem yw {a:Nat} (ha:a<L.length) {out:List aG} {cur:Int} (h:cy L a out cur=.ok none):cy L' (p+a) out cur=.ok none:=by
 unfold cy at h ⊢;rw [E.pk ha,show p+a+1=p+(a+1) from rfl,Gj E ha];by_cases uj:pk L a=124
 ·rw [if_pos uj]at h;split at h <;> first | cases h | (injection h with h;cases h)
 rw [if_neg uj]at h ⊢;by_cases ko:pk L a=91
 ·rw [if_pos ko]at h;split at h <;> first | cases h | (injection h with h;cases h)
 rw [if_neg ko]at h ⊢;by_cases kW:pk L a=36∧jW (pk L (a+1))=true
 ·rw [if_pos kW]at h;split at h <;> first | cases h | (injection h with h;cases h)
 rw [if_neg kW]at h ⊢;by_cases yy:pk L a=39
 ·rw [if_pos yy]at h;split at h <;> first | cases h | (injection h with h;cases h)
 rw [if_neg yy]at h ⊢;by_cases xR:pk L a=92∨dh (pk L a)=true
 ·rw [if_pos xR]at h;split at h
  ·cases h
  split at h <;> first | cases h | (injection h with h;cases h)
 rw [if_neg xR]
theorem Mk (hL:cA L) {a j:Nat} {out o:List aG} {cur c:Int} (h:cy L a out cur=.ok (some ((o,c),j))):a<j∧j≤L.length∧cy L' (p+a) out cur=.ok (some ((o,c),p+j)):=by
 have haj:=(xd hL h).1;have ha:a<L.length:=by
  refine bE (fun e=>?_);unfold cy at h;rw [e]at h;simp [dh]at h
 refine⟨haj,?_⟩;unfold cy at h ⊢;rw [E.pk ha,show p+a+1=p+(a+1) from rfl,Gj E ha];by_cases uj:pk L a=124
 ·rw [if_pos uj]at h ⊢;by_cases hc:0≤cur
  ·rw [if_pos hc]at h;cases h
  rw [if_neg hc]at h ⊢;injection h with h;injection h with h;injection h with h1 h2;injection h1 with h1 h3;subst h1 h2 h3;exact⟨ha,rfl⟩
 rw [if_neg uj]at h ⊢;by_cases ko:pk L a=91
 ·rw [if_pos ko]at h ⊢;cases hs:bH L 20 a with
  | error e=>rw [hs]at h;cases h
  | ok q=>
   obtain⟨s,k⟩:=q;obtain⟨_,hk,e1⟩:=BE E hL 20 _ _ _ hs;rw [hs]at h;rw [e1];simp only at h ⊢;injection h with h;injection h with h;injection h with h1 h2;injection h1 with h1 h3;subst h1 h2 h3;exact⟨hk,rfl⟩
 rw [if_neg ko]at h ⊢;by_cases kW:pk L a=36∧jW (pk L (a+1))=true
 ·rw [if_pos kW]at h ⊢;cases hs:gn L (a+1)with
  | error e=>rw [hs]at h;cases h
  | ok q=>
   obtain⟨s,k⟩:=q;obtain⟨hk,e1⟩:=CX E ha _ _ hs;rw [hs]at h;rw [e1];simp only at h ⊢;injection h with h;injection h with h;injection h with h1 h2;injection h1 with h1 h3;subst h1 h2 h3;exact⟨hk,rfl⟩
 rw [if_neg kW]at h ⊢;by_cases yy:pk L a=39
 ·rw [if_pos yy]at h ⊢;cases hs:fV L a with
  | error e=>rw [hs]at h;cases h
  | ok q=>
   obtain⟨s,k⟩:=q;obtain⟨hk,e1⟩:=E9 E ha _ _ hs;rw [hs]at h;rw [e1];simp only at h ⊢;injection h with h;injection h with h;injection h with h1 h2;injection h1 with h1 h3;subst h1 h2 h3;exact⟨hk,rfl⟩
 rw [if_neg yy]at h ⊢;by_cases xR:pk L a=92∨dh (pk L a)=true
 ·rw [if_pos xR]at h ⊢;cases hs:dc L a with
  | error e=>rw [hs]at h;cases h
  | ok q=>
   obtain⟨x,k⟩:=q;obtain⟨hk,e1⟩:=xx E _ _ _ hs;rw [hs]at h;rw [e1];simp only at h ⊢;by_cases hr:b7 x=true
   ·rw [if_pos hr]at h ⊢;injection h with h;injection h with h;injection h with h1 h2;injection h1 with h1 h3;subst h1 h2 h3;exact⟨hk,rfl⟩
   rw [if_neg hr]at h;cases h
 rw [if_neg xR]at h;injection h with h;cases h
theorem Ir (hL:cA L):∀ (f f' i:Nat) (out:List aG) (cur:Int) (v:List aG × Int) (j:Nat),f≤f'→i≤L.length→cM L f i out cur=.ok (v,j)→i≤j∧j≤L.length∧(j<L.length→cM L' f' (p+i) out cur=.ok (v,p+j)):=by
 intro f;induction f with
 | zero=>intro f' i out cur v j _ _ h;rw [cM]at h;cases h
 | succ f ih=>
  intro f' i out cur v j hf hi h;obtain⟨f',rfl⟩:∃ g,f'=g+1:=⟨f' - 1,by omega⟩;have h0:=dH L i;have h1:=nY hi;rw [cM]at h;cases he:cy L (az L i) out cur with
  | error e=>rw [he]at h;cases h
  | ok q=>
   rw [he]at h;cases q with
   | none=>
    simp only at h;injection h with h;injection h with h3 h4;subst h3 h4;exact⟨h0,h1,fun hj=>by rw [cM,fS E _ i rfl hi (.inl hj),yw E hj he]⟩
   | some q=>
    obtain⟨⟨o,c⟩,k⟩:=q;simp only at h;by_cases h20:20<o.length
    ·rw [if_pos h20]at h;cases h
    rw [if_neg h20]at h;obtain⟨g1,g2,g3⟩:=Mk E hL he;obtain⟨k1,k2,k3⟩:=ih f' k o c v j (by omega) g2 h;refine⟨by omega,k2,fun hj=>?_⟩;rw [cM,fS E _ i rfl hi (.inl (by omega)),g3];simp only;rw [if_neg h20];exact k3 hj
theorem kE (hL:cA L) {i:Nat} {v:List aG × Int} {j:Nat} (hi:i≤L.length) (h:cI L i=.ok (v,j)):i≤j∧j≤L.length∧(j<L.length→cI L' (p+i)=.ok (v,p+j)) :=
  Ir E hL _ _ _ _ _ _ _ (by have:=E.len;omega) hi h
theorem MD (hL:cA L) {start:Bool} {a:Nat} {v:List aG × List aG × Int} {j:Nat} (ha:a≤L.length) (h:dN L start a=.ok (v,j)):a≤j∧j≤L.length∧(j<L.length→dN L' start (p+a)=.ok (v,p+j)):=by
 unfold dN at h;cases hi:cI L a with
 | error e=>rw [hi]at h;cases h
 | ok q=>
  obtain⟨⟨l,c⟩,j1⟩:=q;obtain⟨g1,g2,g3⟩:=kE E hL ha hi;rw [hi]at h;simp only at h;by_cases rA:pk L j1=123
  ·have ja:j1<L.length:=bE (by omega);rw [if_pos rA]at h;by_cases hc:0≤c
   ·rw [if_pos hc]at h;cases h
   rw [if_neg hc]at h;cases hi2:cI L (j1+1)with
   | error e=>rw [hi2]at h;cases h
   | ok q=>
    obtain⟨⟨l2,c2⟩,j2⟩:=q;obtain⟨k1,k2,k3⟩:=kE E hL ja hi2;rw [hi2]at h;simp only at h;injection h with h;injection h with h3 h4;subst h3 h4;refine⟨by omega,k2,fun hj=>?_⟩;unfold dN;rw [g3 ja];simp only;rw [E.pk ja,if_pos rA,if_neg hc,show p+j1+1=p+(j1+1) from rfl,k3 hj]
  rw [if_neg rA]at h;by_cases hs:start=true
  ·rw [if_pos hs]at h;cases h
  rw [if_neg hs]at h;injection h with h;injection h with h3 h4;subst h3 h4;refine⟨g1,g2,fun hj=>?_⟩;unfold dN;rw [g3 hj];simp only;rw [E.pk hj,if_neg rA,if_neg hs]
theorem Ci (hL:cA L) {i:Nat} {v:List aG × Bool} {j:Nat} (hi:i≤L.length) (h:ej L i=.ok (v,j)):i≤j∧j≤L.length∧(j<L.length→ej L' (p+i)=.ok (v,p+j)):=by
 unfold ej at h;by_cases wB:pk L i=125
 ·have hl:i<L.length:=bE (by omega);rw [if_pos wB]at h;cases hi2:cI L (i+1)with
  | error e=>rw [hi2]at h;cases h
  | ok q=>
   obtain⟨⟨l,c⟩,k⟩:=q;obtain⟨k1,k2,k3⟩:=kE E hL hl hi2;rw [hi2]at h;simp only at h;by_cases hc:0≤c
   ·rw [if_pos hc]at h;cases h
   rw [if_neg hc]at h;by_cases kW:pk L k=36
   ·have iw:k<L.length:=bE (by omega);rw [if_pos kW]at h;injection h with h;injection h with h3 h4;subst h3 h4;refine⟨by omega,iw,fun hj=>?_⟩;unfold ej;rw [E.pk hl,if_pos wB,show p+i+1=p+(i+1) from rfl,k3 iw];simp only;rw [if_neg hc,E.pk iw,if_pos kW];rfl
   rw [if_neg kW]at h;injection h with h;injection h with h3 h4;subst h3 h4;refine⟨by omega,k2,fun hj=>?_⟩;unfold ej;rw [E.pk hl,if_pos wB,show p+i+1=p+(i+1) from rfl,k3 hj];simp only;rw [if_neg hc,E.pk hj,if_neg kW]
 rw [if_neg wB]at h;injection h with h;injection h with h3 h4;subst h3 h4;refine⟨Nat.le_refl _,hi,fun hj=>?_⟩;unfold ej;rw [E.pk hj,if_neg wB]
theorem CM (hL:cA L) {i:Nat} {v:bW} {j:Nat} (hi:i≤L.length) (h:dM L i=.ok (v,j)):az L i≤j∧j≤L.length∧(j<L.length→dM L' (p+i)=.ok (v,p+j)):=by
 unfold dM at h;obtain⟨a0,ha0⟩:∃ a0,az L i=a0:=⟨_,rfl⟩;rw [ha0]at h;have ZM:a0≤L.length:=(by rw [← ha0];exact nY hi);obtain⟨a1,mu⟩:∃ a1,(if pk L a0=94 then a0+1 else a0)=a1:=⟨_,rfl⟩;rw [mu]at h;have Zc:a0≤a1∧a1≤L.length:=by
  rw [← mu];split
  ·rename_i nP;have:=bE (L:=L) (i:=a0) (by omega);omega
  exact⟨Nat.le_refl _,ZM⟩
 cases hh:dN L (decide (pk L a0=94)) a1 with
 | error e=>rw [hh]at h;cases h
 | ok q=>
  obtain⟨⟨b,s,c⟩,j1⟩:=q;obtain⟨g1,g2,g3⟩:=MD E hL Zc.2 hh;rw [hh]at h;simp only at h;cases ht:ej L j1 with
  | error e=>rw [ht]at h;cases h
  | ok q=>
   obtain⟨⟨a,fin⟩,k⟩:=q;obtain⟨k1,k2,k3⟩:=Ci E hL g2 ht;rw [ht]at h;simp only at h;injection h with h;injection h with h3 h4;subst h3 h4;have h5:=dH L k;have h6:=nY k2;refine⟨by omega,h6,fun hj=>?_⟩;have CY:a0<L.length:=(by omega);unfold dM;rw [fS E _ i rfl hi (.inl (by omega)),ha0,E.pk CY,show(if pk L a0=94 then p+a0+1 else p+a0)=p+a1 by rw [← mu];split <;> rfl,g3 (by omega)];simp only;rw [k3 (by omega)];simp only;rw [fS E _ k rfl k2 (.inl hj)]
theorem yX {i:Nat} {d:Int} {j:Nat} (h:eK L i=.ok (d,j)):i<j∧j≤L.length∧eK L' (p+i)=.ok (d,p+j):=by
 unfold eK at h ⊢;by_cases Il:pk L i=62
 ·have hl:i<L.length:=bE (by omega);rw [if_pos Il]at h;injection h with h;injection h with h3 h4;subst h3 h4;rw [E.pk hl,if_pos Il];exact⟨by omega,hl,rfl⟩
 rw [if_neg Il]at h;by_cases zm:pk L i=60∧pk L (i+1)=62
 ·have hl:i<L.length:=bE (by omega);have iw:i+1<L.length:=bE (by omega);rw [if_pos zm]at h;injection h with h;injection h with h3 h4;subst h3 h4;rw [E.pk hl,show p+i+1=p+(i+1) from rfl,E.pk iw,if_neg Il,if_pos zm];exact⟨by omega,iw,rfl⟩
 rw [if_neg zm]at h;cases hn:aT L i 60 with
 | error e=>rw [hn]at h;cases h
 | ok k=>
  obtain⟨hk,e1⟩:=jq E hn (by decide);obtain⟨rfl,hp⟩:=fQ hn;have hl:i<L.length:=hk;rw [hn]at h;simp only at h;injection h with h;injection h with h3 h4;subst h3 h4;have c1:=E.is (k:=i+1) hk (r:=62) (by decide) (by decide) (by decide);rw [E.pk hl,if_neg Il,show p+i+1=p+(i+1) from rfl,if_neg (fun x=>zm ⟨x.1,c1.1 x.2⟩),e1];exact⟨by omega,hk,rfl⟩
theorem LI (hL:cA L) {i:Nat} {v:aH} {j:Nat} (hi:i≤L.length) (h:iQ L i=.ok (v,j)):i≤j∧j≤L.length∧(j<L.length→iQ L' (p+i)=.ok (v,p+j)):=by
 unfold iQ at h;cases hs:dM L i with
 | error e=>rw [hs]at h;cases h
 | ok q=>
  obtain⟨l,a⟩:=q;obtain⟨g1,g2,g3⟩:=CM E hL hi hs;rw [hs]at h;simp only at h;cases ha:eK L a with
  | error e=>rw [ha]at h;cases h
  | ok q=>
   obtain⟨d,k⟩:=q;obtain⟨k1,k2,k3⟩:=yX E ha;rw [ha]at h;simp only at h;cases xu:dM L k with
   | error e=>rw [xu]at h;cases h
   | ok q=>
    obtain⟨r,m⟩:=q;obtain⟨m1,m2,m3⟩:=CM E hL k2 xu;rw [xu]at h;simp only at h;have h7:=dH L i;have h8:=dH L k;by_cases hw:fN ⟨2,eE,[],d,l,r⟩≠0
    ·rw [if_pos hw]at h;cases h
    rw [if_neg hw]at h;injection h with h;injection h with h3 h4;subst h3 h4;refine⟨by omega,m2,fun hj=>?_⟩;unfold iQ;rw [g3 (by omega)];simp only;rw [k3];simp only;rw [m3 hj];simp only;rw [if_neg hw]
theorem LB (hL:cA L) {i:Nat} {v:aH} {j:Nat} (h:iW L i=.ok (v,j)):i≤j∧j≤L.length∧(j<L.length→iW L' (p+i)=.ok (v,p+j)):=by
 unfold iW at h;cases hn:aT L (i+1) 58 with
 | error e=>rw [hn]at h;cases h
 | ok a=>
  obtain⟨ha,e1⟩:=jq E hn (by decide);have h0:=(fQ hn).1;rw [hn]at h;simp only at h;have h5:=dH L a;have h6:=nY ha;by_cases ko:pk L (az L a)=91
  ·have hl:az L a<L.length:=bE (by omega);rw [if_pos ko]at h;cases hs:bH L 20 (az L a)with
   | error e=>rw [hs]at h;cases h
   | ok q=>
    obtain⟨s,k⟩:=q;obtain⟨k0,k1,k2⟩:=BE E hL 20 _ _ _ hs;rw [hs]at h;simp only at h;injection h with h;injection h with h3 h4;subst h3 h4;refine⟨by omega,k1,fun hj=>?_⟩;unfold iW;rw [show p+i+1=p+(i+1) from rfl,e1];simp only;rw [fS E _ a rfl ha (.inl hl),E.pk hl,if_pos ko,k2]
  rw [if_neg ko]at h;by_cases hb:jL (gN L (az L a))=true
  ·rw [if_pos hb]at h;injection h with h;injection h with h3 h4;subst h3 h4;have h7:=wF L (az L a);refine⟨by omega,kz h6,fun hj=>?_⟩;have hl:az L a<L.length:=(by omega);unfold iW;rw [show p+i+1=p+(i+1) from rfl,e1];simp only;rw [fS E _ a rfl ha (.inl hl),E.pk hl,if_neg ko,zu E h6,if_pos hb,jg E h6]
  rw [if_neg hb]at h;cases h
theorem Pn (hL:cA L) {i:Nat} {v:aH} {j:Nat} (hi:i<L.length) (h:nH L i=.ok (v,j)):i≤j∧j≤L.length∧(j<L.length→nH L' (p+i)=.ok (v,p+j)):=by
 unfold nH at h;cases hn:gn L (i+1)with
 | error e=>rw [hn]at h;cases h
 | ok q=>
  obtain⟨s,a⟩:=q;obtain⟨ha,e1⟩:=CX E hi _ _ hn;have h0:=(kR hn).1;rw [hn]at h;simp only at h;cases hq:aT L (az L a) 61 with
  | error e=>rw [hq]at h;cases h
  | ok k=>
   obtain⟨hk,e2⟩:=jq E hq (by decide);have h1:=(fQ hq).1;have h2:=dH L a;rw [hq]at h;simp only at h;cases hs:bH L 20 (az L k)with
   | error e=>rw [hs]at h;cases h
   | ok q=>
    obtain⟨t,m⟩:=q;obtain⟨k0,k1,k2⟩:=BE E hL 20 _ _ _ hs;have h4:=dH L k;rw [hs]at h;simp only at h;injection h with h;injection h with h3 h5;subst h3 h5;refine⟨by omega,k1,fun hj=>?_⟩;unfold nH;rw [show p+i+1=p+(i+1) from rfl,e1];simp only;rw [fS E _ a rfl ha (.inl (by omega)),e2];simp only;rw [fS E _ k rfl hk (.inl (by omega)),k2]
end
theorem De {L:List Int} (hL:cA L) {i:Nat} {v:bW} {j:Nat} (kW:pk L i=36) (h:dM L i=.ok (v,j)):j=i∨az L (bk L (i+1))≤j:=by
 have E:Is 0 L L:=⟨fun k _=>by rw [Nat.zero_add],.inr (.inr (by rw [Nat.zero_add];exact pW (Nat.le_refl _)))⟩;have e0:az L i=i:=IG (by rw [kW];decide) (by rw [kW];decide);have hl:i<L.length:=bE (by omega);unfold dM at h;rw [e0,if_neg (by rw [kW];decide),show decide (pk L i=94)=false by rw [kW];decide]at h;unfold dN at h;cases hi:cI L i with
 | error e=>rw [hi]at h;cases h
 | ok q=>
  obtain⟨⟨l,c⟩,j1⟩:=q;have Qg:=kE E hL (Nat.le_of_lt hl) hi;have key:j1=i∨az L (bk L (i+1))≤j1:=by
   unfold cI at hi;rw [cM,e0]at hi;unfold cy at hi;rw [if_neg (by rw [kW];decide),if_neg (by rw [kW];decide)]at hi;by_cases hc:pk L i=36∧jW (pk L (i+1))=true
   ·rw [if_pos hc]at hi;cases hs:gn L (i+1)with
    | error e=>rw [hs]at hi;cases hi
    | ok q=>
     obtain⟨s,k⟩:=q;have hk:=(kR hs).2.2.2;rw [hs]at hi;simp only at hi;split at hi
     ·cases hi
     have:=Me hL _ _ _ _ _ _ hi;rw [hk]at this;exact .inr this
   rw [if_neg hc,if_neg (by rw [kW];decide),if_neg (by rw [kW];decide)]at hi;simp only at hi;injection hi with hi;injection hi with h3 h4;exact .inl h4.symm
  rw [hi]at h;simp only at h;rcases key with rfl | key
  ·rw [if_neg (by rw [kW];decide),if_neg (by decide)]at h;simp only at h;unfold ej at h;rw [if_neg (by rw [kW];decide)]at h;simp only at h;injection h with h;injection h with h3 h4;rw [e0]at h4;exact .inl h4.symm
  right;have up:∀ (r:jS (List aG × List aG × Int)),(match r with | .error e=>Except.error e | .ok ((b,s,c),j)=>match ej L j with | .error e=>.error e | .ok ((a,fin),k)=>.ok ((⟨false,fin,b,s,a,c⟩:bW),az L k))=.ok (v,j)→(∀ x k,r=.ok (x,k)→j1≤k∧k≤L.length)→j1≤j:=by
   intro r hr hk;cases r with
   | error e=>cases hr
   | ok q=>
    obtain⟨⟨b,s,c⟩,k⟩:=q;obtain⟨hk1,hk2⟩:=hk _ _ rfl;simp only at hr;cases ht:ej L k with
    | error e=>rw [ht]at hr;cases hr
    | ok q=>
     obtain⟨⟨a,fin⟩,m⟩:=q;have hm:=(Ci E hL hk2 ht).1;rw [ht]at hr;simp only at hr;injection hr with hr;injection hr with h3 h4;have:=dH L m;omega
  refine Nat.le_trans key (up _ h ?_);intro x k hk;split at hk
  ·rename_i rA;have ja:j1<L.length:=bE (by omega);split at hk
   ·cases hk
   cases hi2:cI L (j1+1)with
   | error e=>rw [hi2]at hk;cases hk
   | ok q=>
    obtain⟨⟨l2,c2⟩,j2⟩:=q;have:=kE E hL ja hi2;rw [hi2]at hk;simp only at hk;injection hk with hk;injection hk with h3 h4;omega
  rw [if_neg (by decide)]at hk;injection hk with hk;injection hk with h3 h4;omega
theorem zv {p:Nat} {L L':List Int} (E:Is p L L') (hL:cA L) {i:Nat} {v:aH} {j:Nat} (hi:i≤L.length) (h:iR L i=.ok (v,j)):i≤j∧j≤L.length∧(j<L.length→iR L' (p+i)=.ok (v,p+j)):=by
 unfold iR at h;by_cases wI:pk L i=58
 ·rw [if_pos wI]at h;have hl:i<L.length:=bE (by omega);obtain⟨g1,g2,g3⟩:=LB E hL h;refine⟨g1,g2,fun hj=>?_⟩;unfold iR;rw [E.pk hl,if_pos wI];exact g3 hj
 rw [if_neg wI]at h;by_cases kW:pk L i=36∧pk L (az L (bk L (i+1)))=61
 ·rw [if_pos kW]at h;have hl:i<L.length:=bE (by omega);have iw:az L (bk L (i+1))<L.length:=bE (by omega);obtain⟨g1,g2,g3⟩:=Pn E hL hl h;refine⟨g1,g2,fun hj=>?_⟩;unfold iR;rw [E.pk hl,if_neg wI,show p+i+1=p+(i+1) from rfl,jg E hl,fS E _ _ rfl (kz hl) (.inl iw),E.pk iw,if_pos kW];exact g3 hj
 rw [if_neg kW]at h;obtain⟨g1,g2,g3⟩:=LI E hL hi h;refine⟨g1,g2,fun hj=>?_⟩;have hl:i<L.length:=(by omega);unfold iR;rw [E.pk hl,if_neg wI,if_neg];exact g3 hj;rintro⟨x1,x2⟩;rw [show p+i+1=p+(i+1) from rfl,jg E hl]at x2;rcases Nat.lt_or_ge (az L (bk L (i+1))) L.length with hs | hs
 ·rw [fS E _ _ rfl (kz hl) (.inl hs),E.pk hs]at x2;exact kW ⟨x1,x2⟩
 unfold iQ at h;cases hsd:dM L i with
 | error e=>rw [hsd]at h;cases h
 | ok q=>
  obtain⟨l,a⟩:=q;rw [hsd]at h;simp only at h;cases ha:eK L a with
  | error e=>rw [ha]at h;cases h
  | ok q=>
   obtain⟨d,k⟩:=q;have hk:=(yX E ha);rcases De hL x1 hsd with rfl | hge
   ·unfold eK at ha;rw [if_neg (by omega),if_neg (fun x=>by have:=x.1;omega),zC (by omega)]at ha;cases ha
   omega
theorem Kw {L:List Int} (hL:cA L) {i:Nat} {v:aH} {j:Nat} (hi:i≤L.length) (h:iR L i=.ok (v,j)):i≤j∧j≤L.length:=by
 have E:Is 0 L L:=⟨fun k _=>by rw [Nat.zero_add],.inr (.inr (by rw [Nat.zero_add];exact pW (Nat.le_refl _)))⟩;exact⟨(zv E hL hi h).1,(zv E hL hi h).2.1⟩
theorem oO (A:Option Addr) (n c:Nat) (l:List aH) (w:World) (hn:n≤maxLen) (hl:BM w w.heap.size A n l) :
    Calls Tryz.prog 75 #[.slice A n c] w fun e w'=>e=.returned (.agg #[.int .i64 (fm l).1,.int .i64 (fm l).2])∧Below w.heap.size w w':=by
 have aQ:=qqh (j7.len hl);have HL:=qqh hl;have hn2:n≤9223372036854775807:=(by unfold maxLen at hn;omega);clear hl hn;by_cases h20:200<n
 ·have HP:=qqh (show fm l=(5,0) by unfold fm;rw [if_pos (by rw [aQ.out];exact h20)]);go_enter Tryz.func75,Tryz.ntmps75;go_wp2_with fail;rw [HP.out];exact bodyPost_ret (v:=.agg #[.int .i64 5,.int .i64 0]) (by simp [results,Tryz.results75,go_sem]) rfl ⟨rfl,(Below.refl _ _).alloc (Nat.le_refl _) _⟩
 have HP:=qqh (show fm l=lR 0 l by unfold fm;rw [if_neg (by rw [aQ.out];exact h20)]);go_enter Tryz.func75,Tryz.ntmps75;go_wp2_with fail;go_loopw [12] (VS w l n) (fun i _=>n - (intOf i).toNat);(case atStart=>exact⟨0,Nat.zero_le _,rfl,rfl,aj.new _ _ _,(Below.refl _ _).alloc (Nat.le_refl _) _⟩);obtain⟨k,hk,rfl,aV,hres,hb⟩:=hrel;have hz:=hb.size;have agE:=hres.lt;by_cases hlt:k<n
 ·obtain⟨p,hp⟩:∃ z,l[k]? = some z:=⟨_,List.getElem?_eq_getElem (by rw [aQ.out];exact hlt)⟩;rw [cW hp,lR]at aV;obtain⟨b,off,A',n',c',L1,L2,L3,R1,R2,R3,a1,a2,a3,x1,x2,x3,b1,b2,b3,y1,y2,y3,rfl,cH,⟨f0,f1,f2,f3,f4,f5,f6,f7,f8,f9,f10,f11,f12,f13,f14,f15⟩,hs,hn',l1,l2,l3,Bo,xO,zQ,r1,r2,r3,AA,xL,Bk,cl,cr,hm⟩:=GQ HL.out hp;have d0:=(hb.cell (p:=⟨b,off+k*16,none⟩) cH).trans f0;have d1:=(hb.cell (p:=⟨b,off+k*16+1,none⟩) cH).trans f1;have d2:=(hb.cell (p:=⟨b,off+k*16+2,none⟩) cH).trans f2;have d3:=(hb.cell (p:=⟨b,off+k*16+3,none⟩) cH).trans f3;have d4:=(hb.cell (p:=⟨b,off+k*16+4,none⟩) cH).trans f4;have d5:=(hb.cell (p:=⟨b,off+k*16+5,none⟩) cH).trans f5;have d6:=(hb.cell (p:=⟨b,off+k*16+6,none⟩) cH).trans f6;have d7:=(hb.cell (p:=⟨b,off+k*16+7,none⟩) cH).trans f7;have d8:=(hb.cell (p:=⟨b,off+k*16+8,none⟩) cH).trans f8;have d9:=(hb.cell (p:=⟨b,off+k*16+9,none⟩) cH).trans f9;have d10:=(hb.cell (p:=⟨b,off+k*16+10,none⟩) cH).trans f10;have d11:=(hb.cell (p:=⟨b,off+k*16+11,none⟩) cH).trans f11;have d12:=(hb.cell (p:=⟨b,off+k*16+12,none⟩) cH).trans f12;have d13:=(hb.cell (p:=⟨b,off+k*16+13,none⟩) cH).trans f13;have d14:=(hb.cell (p:=⟨b,off+k*16+14,none⟩) cH).trans f14;have d15:=(hb.cell (p:=⟨b,off+k*16+15,none⟩) cH).trans f15;have HI:=qqh (fun w' (hw:Below w.heap.size w w')=>qV p A' n' c' L1 L2 L3 R1 R2 R3 a1 a2 a3 x1 x2 x3 b1 b2 b3 y1 y2 y3 w' (Rd.more (Rd.below hs hw) hw.size) hn' (aO l1 hw) (aO l2 hw) (aO l3 hw) Bo xO zQ (aO r1 hw) (aO r2 hw) (aO r3 hw) AA xL Bk);clear f0 f1 f2 f3 f4 f5 f6 f7 f8 f9 f10 f11 f12 f13 f14 f15 hs hn' l1 l2 l3 Bo xO zQ r1 r2 r3 AA xL Bk cl cr hm
  have bJ:=qqh (hb.alloc hz (.cells #[.int .i64 p.kind,.string p.name,.slice A' n' c',.int .i64 p.dir,.bool p.left.start,.bool p.left.fin,.slice L1 a1 x1,.slice L2 a2 x2,.slice L3 a3 x3,.int .i64 p.left.ag,.bool p.right.start,.bool p.right.fin,.slice R1 b1 y1,.slice R2 b2 y2,.slice R3 b3 y3,.int .i64 p.right.ag] 103));have NO:=qqh (hres.alloc (.cells #[.int .i64 p.kind,.string p.name,.slice A' n' c',.int .i64 p.dir,.bool p.left.start,.bool p.left.fin,.slice L1 a1 x1,.slice L2 a2 x2,.slice L3 a3 x3,.int .i64 p.left.ag,.bool p.right.start,.bool p.right.fin,.slice R1 b1 y1,.slice R2 b2 y2,.slice R3 b3 y3,.int .i64 p.right.ag] 103));by_cases hi:fN p=0
  ·rw [if_pos hi]at aV;have HG:=qqh aV;clear aV hres;go_wp2_with fail;refine(HI.out _ bJ.out).mono ?_;rintro e w2 ⟨rfl,aU⟩;rw [hi];have hk2:=aj.below NO.out aU NO.out.lt;have bL:=bJ.out.trans (aU.mono bJ.out.size);have Tw:=qqh hk2;have bG:=qqh bL;clear aU bL hk2;go_wp2_with fail;exact⟨⟨k+1,by omega,by go_num,HG.out,Tw.out,bG.out⟩,by simp [intOf];omega⟩
  rw [if_neg hi]at aV;have hi2:(fN p != 0)=true:=(by simpa using hi);have HG:=qqh aV;clear aV hres hi;go_wp2_with fail;refine(HI.out _ bJ.out).mono ?_;rintro e w2 ⟨rfl,aU⟩;have hk2:=aj.below NO.out aU NO.out.lt;have bL:=bJ.out.trans (aU.mono bJ.out.size);have q0:w2.cell? ⟨w.heap.size,0,none⟩=some (.int .i64 0):=hk2.cell 0;have q1:w2.cell? ⟨w.heap.size,1,none⟩=some (.int .i64 0):=hk2.cell 1;have q2:=hk2.frozen 0;have q3:=hk2.frozen 1;have bG:=qqh bL;clear aU bL hk2;go_wp2_with fail;rw [HP.out,HG.out];exact bodyPost_ret (v:=.agg #[.int .i64 (fN p),.int .i64 k]) (by simp [results,Tryz.results75,go_sem,q0,q1]) rfl ⟨rfl,(bG.out.setCell (by simp) _).setCell (by simp) _⟩
 obtain rfl:k=n:=(by omega);rw [List.drop_of_length_le (by rw [aQ.out];omega)]at aV;have HG:=qqh (aV.trans (show lR k [] =(0,0) from rfl));have q0:wr.cell? ⟨w.heap.size,0,none⟩=some (.int .i64 0):=hres.cell 0;have q1:wr.cell? ⟨w.heap.size,1,none⟩=some (.int .i64 0):=hres.cell 1;have q2:=hres.frozen 0;have q3:=hres.frozen 1;clear aV hres;go_wp2_with fail;rw [HP.out,HG.out];exact bodyPost_ret (v:=.agg #[.int .i64 0,.int .i64 0]) (by simp [results,Tryz.results75,go_sem,q0,q1]) rfl ⟨rfl,(hb.setCell (by simp) _).setCell (by simp) _⟩
end Go.Proofs.YtkggjgeihhialaaGreatDoor
