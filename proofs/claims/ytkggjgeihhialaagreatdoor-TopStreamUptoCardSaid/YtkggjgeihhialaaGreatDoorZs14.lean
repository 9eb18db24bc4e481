/- PartWalk + PartAll + RulesP + RulesMono + RulesEmb + SpaceEq + RulesEmb2 + FileSyn -/
import Derived.Test.YtkggjgeihhialaaGreatDoorZs11
import Derived.Deep.RegionWith
import Derived.Test.YtkggjgeihhialaaGreatDoorZs9
import Derived.Test.YtkggjgeihhialaaGreatDoorZs12
set_option maxHeartbeats 1600000
set_option maxRecDepth 100000
namespace Go.Proofs.YtkggjgeihhialaaGreatDoor
open Go.RowKit
theorem Bv {w:World} {g:Nat} {t:TypeId} {cs:Array Value} (h:aj w g t cs):aj w.drew g t cs:=h
theorem Kg (name:ByteArray) (set:ag) (left right:bO) (dir:Int) (A:Option Addr) (n c:Nat) (L1 L2 L3 R1 R2 R3:Option Addr) (a1 a2 a3 x1 x2 x3 b1 b2 b3 y1 y2 y3:Nat) (w:World) (hs:lR w w.heap.size A n set) (hn:n≤9223372036854775807) :
    Calls Tryz.prog 74 #[.agg #[.int .i64 1,.string name,.slice A n c,.int .i64 dir,.bool left.start,.bool left.fin,.slice L1 a1 x1,.slice L2 a2 x2,.slice L3 a3 x3,.int .i64 left.af,.bool right.start,.bool right.fin,.slice R1 b1 y1,.slice R2 b2 y2,.slice R3 b3 y3,.int .i64 right.af]] w fun e w'=>e=.returned (.int .i64 (if dY name=true then bL set else 7))∧Below w.heap.size w w':=by
 have HB:=qqh ((Below.refl w.heap.size w).alloc (Nat.le_refl _) (.cells #[.int .i64 1,.string name,.slice A n c,.int .i64 dir,.bool left.start,.bool left.fin,.slice L1 a1 x1,.slice L2 a2 x2,.slice L3 a3 x3,.int .i64 left.af,.bool right.start,.bool right.fin,.slice R1 b1 y1,.slice R2 b2 y2,.slice R3 b3 y3,.int .i64 right.af] 103));have HS:=qqh (rH hs (.cells #[.int .i64 1,.string name,.slice A n c,.int .i64 dir,.bool left.start,.bool left.fin,.slice L1 a1 x1,.slice L2 a2 x2,.slice L3 a3 x3,.int .i64 left.af,.bool right.start,.bool right.fin,.slice R1 b1 y1,.slice R2 b2 y2,.slice R3 b3 y3,.int .i64 right.af] 103));clear hs;cases hr:dY name
 ·go_enter Tryz.func74,Tryz.ntmps74;go_wp2_with (go_at_call 100;refine(iW _ _).mono ?_;rintro e w' ⟨rfl,rfl⟩;rw [hr]);go_ret;exact⟨rfl,HB.out⟩
 go_enter Tryz.func74,Tryz.ntmps74;go_wp2_with (go_at_call 100;refine(iW _ _).mono ?_;rintro e w' ⟨rfl,rfl⟩;rw [hr]);refine(iS A n c set _ hn HS.out).mono ?_;rintro e w' ⟨rfl,hb⟩;go_wp2_with fail;go_ret;exact⟨rfl,HB.out.trans (hb.mono (by simp))⟩
theorem CE (name:ByteArray) (set:ag) (left right:bO) (dir:Int) (A:Option Addr) (n c:Nat) (L1 L2 L3 R1 R2 R3:Option Addr) (a1 a2 a3 x1 x2 x3 b1 b2 b3 y1 y2 y3:Nat) (w:World) (hs:lR w w.heap.size A n set) (hn:n≤9223372036854775807) :
    Calls Tryz.prog 74 #[.agg #[.int .i64 3,.string name,.slice A n c,.int .i64 dir,.bool left.start,.bool left.fin,.slice L1 a1 x1,.slice L2 a2 x2,.slice L3 a3 x3,.int .i64 left.af,.bool right.start,.bool right.fin,.slice R1 b1 y1,.slice R2 b2 y2,.slice R3 b3 y3,.int .i64 right.af]] w fun e w'=>e=.returned (.int .i64 (bL set))∧Below w.heap.size w w':=by
 have HB:=qqh ((Below.refl w.heap.size w).alloc (Nat.le_refl _) (.cells #[.int .i64 3,.string name,.slice A n c,.int .i64 dir,.bool left.start,.bool left.fin,.slice L1 a1 x1,.slice L2 a2 x2,.slice L3 a3 x3,.int .i64 left.af,.bool right.start,.bool right.fin,.slice R1 b1 y1,.slice R2 b2 y2,.slice R3 b3 y3,.int .i64 right.af] 103));have HS:=qqh (rH hs (.cells #[.int .i64 3,.string name,.slice A n c,.int .i64 dir,.bool left.start,.bool left.fin,.slice L1 a1 x1,.slice L2 a2 x2,.slice L3 a3 x3,.int .i64 left.af,.bool right.start,.bool right.fin,.slice R1 b1 y1,.slice R2 b2 y2,.slice R3 b3 y3,.int .i64 right.af] 103));clear hs;go_enter Tryz.func74,Tryz.ntmps74;go_wp2_with fail;refine(iS A n c set _ hn HS.out).mono ?_;rintro e w' ⟨rfl,hb⟩;go_wp2_with fail;go_ret;exact⟨rfl,HB.out.trans (hb.mono (by simp))⟩
theorem E1 (name:ByteArray) (left right:bO) (kind dir:Int) (A:Option Addr) (n c:Nat) (L1 L2 L3 R1 R2 R3:Option Addr) (a1 a2 a3 x1 x2 x3 b1 b2 b3 y1 y2 y3:Nat) (w:World) (k1:kind≠1) (k2:kind≠2) (k3:kind≠3) (k4:kind≠4) :
    Calls Tryz.prog 74 #[.agg #[.int .i64 kind,.string name,.slice A n c,.int .i64 dir,.bool left.start,.bool left.fin,.slice L1 a1 x1,.slice L2 a2 x2,.slice L3 a3 x3,.int .i64 left.af,.bool right.start,.bool right.fin,.slice R1 b1 y1,.slice R2 b2 y2,.slice R3 b3 y3,.int .i64 right.af]] w fun e w'=>e=.returned (.int .i64 (1))∧Below w.heap.size w w':=by
 have HB:=qqh ((Below.refl w.heap.size w).alloc (Nat.le_refl _) (.cells #[.int .i64 kind,.string name,.slice A n c,.int .i64 dir,.bool left.start,.bool left.fin,.slice L1 a1 x1,.slice L2 a2 x2,.slice L3 a3 x3,.int .i64 left.af,.bool right.start,.bool right.fin,.slice R1 b1 y1,.slice R2 b2 y2,.slice R3 b3 y3,.int .i64 right.af] 103));have e1:(kind == 1)=false:=(by simpa using k1);have e2:(kind == 2)=false:=(by simpa using k2);have e3:(kind == 3)=false:=(by simpa using k3);have e4:(kind == 4)=false:=(by simpa using k4);clear k1 k2 k3 k4;go_enter Tryz.func74,Tryz.ntmps74;go_wp2_with fail;go_ret;exact⟨rfl,HB.out⟩
theorem Hf (name:ByteArray) (left right:bO) (dir:Int) (A:Option Addr) (n c:Nat) (L1 L2 L3 R1 R2 R3:Option Addr) (a1 a2 a3 x1 x2 x3 b1 b2 b3 y1 y2 y3:Nat) (w:World)  :
    Calls Tryz.prog 74 #[.agg #[.int .i64 4,.string name,.slice A n c,.int .i64 dir,.bool left.start,.bool left.fin,.slice L1 a1 x1,.slice L2 a2 x2,.slice L3 a3 x3,.int .i64 left.af,.bool right.start,.bool right.fin,.slice R1 b1 y1,.slice R2 b2 y2,.slice R3 b3 y3,.int .i64 right.af]] w fun e w'=>e=.returned (.int .i64 (if jy name=true then 0 else 7))∧Below w.heap.size w w':=by
 have HB:=qqh ((Below.refl w.heap.size w).alloc (Nat.le_refl _) (.cells #[.int .i64 4,.string name,.slice A n c,.int .i64 dir,.bool left.start,.bool left.fin,.slice L1 a1 x1,.slice L2 a2 x2,.slice L3 a3 x3,.int .i64 left.af,.bool right.start,.bool right.fin,.slice R1 b1 y1,.slice R2 b2 y2,.slice R3 b3 y3,.int .i64 right.af] 103));have c1:(w.alloc (.cells #[.int .i64 4,.string name,.slice A n c,.int .i64 dir,.bool left.start,.bool left.fin,.slice L1 a1 x1,.slice L2 a2 x2,.slice L3 a3 x3,.int .i64 left.af,.bool right.start,.bool right.fin,.slice R1 b1 y1,.slice R2 b2 y2,.slice R3 b3 y3,.int .i64 right.af] 103)).cell? ⟨w.heap.size,1,none⟩=some (.string name):=(aj.new _ _ _).cell 1;have hlt:w.heap.size<(w.alloc (.cells #[.int .i64 4,.string name,.slice A n c,.int .i64 dir,.bool left.start,.bool left.fin,.slice L1 a1 x1,.slice L2 a2 x2,.slice L3 a3 x3,.int .i64 left.af,.bool right.start,.bool right.fin,.slice R1 b1 y1,.slice R2 b2 y2,.slice R3 b3 y3,.int .i64 right.af] 103)).heap.size:=(by simp);cases hr:jy name
 all_goals
   have HR:=qqh hr
   clear hr
   go_enter Tryz.func74,Tryz.ntmps74
   go_wp2_with fail
   generalize w.alloc (.cells #[.int .i64 4,.string name,.slice A n c,.int .i64 dir,.bool left.start,.bool left.fin,.slice L1 a1 x1,.slice L2 a2 x2,.slice L3 a3 x3,.int .i64 left.af,.bool right.start,.bool right.fin,.slice R1 b1 y1,.slice R2 b2 y2,.slice R3 b3 y3,.int .i64 right.af] 103)=W0 at *
   go_region_with (first | (go_at_call 47;refine(iw _).mono ?_;rintro e w' ⟨rfl,rfl⟩) | (go_at_call 46;refine(qH _ name _ HR.out _ (Bv (aj.new _ _ _))).mono ?_;rintro e w' ⟨rfl,rfl⟩))
   all_goals
     go_wp2_with fail
     go_ret
     exact⟨rfl,below_drewN (HB.out.alloc HB.out.size _) _⟩
theorem qx (p:aF) (A:Option Addr) (n c:Nat) (L1 L2 L3 R1 R2 R3:Option Addr) (a1 a2 a3 x1 x2 x3 b1 b2 b3 y1 y2 y3:Nat) (w:World) (hs:lR w w.heap.size A n p.set) (hn:n≤maxLen) (l1:bM w w.heap.size L1 a1 p.left.before) (l2:bM w w.heap.size L2 a2 p.left.source) (l3:bM w w.heap.size L3 a3 p.left.after) (yU:a1≤maxLen) (wE:a2≤maxLen) (yW:a3≤maxLen) (r1:bM w w.heap.size R1 b1 p.right.before) (r2:bM w w.heap.size R2 b2 p.right.source) (r3:bM w w.heap.size R3 b3 p.right.after) (Ad:b1≤maxLen) (wI:b2≤maxLen) (zR:b3≤maxLen)  :
    Calls Tryz.prog 74 #[.agg #[.int .i64 p.kind,.string p.name,.slice A n c,.int .i64 p.dir,.bool p.left.start,.bool p.left.fin,.slice L1 a1 x1,.slice L2 a2 x2,.slice L3 a3 x3,.int .i64 p.left.af,.bool p.right.start,.bool p.right.fin,.slice R1 b1 y1,.slice R2 b2 y2,.slice R3 b3 y3,.int .i64 p.right.af]] w fun e w'=>e=.returned (.int .i64 (fG p))∧Below w.heap.size w w':=by
 obtain⟨kind,name,set,dir,left,right⟩:=p;dsimp only at *;unfold fG;dsimp only;by_cases k1:kind=1
 ·subst k1;rw [if_pos rfl];exact Kg name set left right dir A n c L1 L2 L3 R1 R2 R3 a1 a2 a3 x1 x2 x3 b1 b2 b3 y1 y2 y3 w hs (by unfold maxLen at hn;omega)
 by_cases k3:kind=3
 ·subst k3;rw [if_neg k1,if_pos rfl];exact CE name set left right dir A n c L1 L2 L3 R1 R2 R3 a1 a2 a3 x1 x2 x3 b1 b2 b3 y1 y2 y3 w hs (by unfold maxLen at hn;omega)
 by_cases k4:kind=4
 ·subst k4;rw [if_neg k1,if_neg k3,if_pos rfl];exact Hf name left right dir A n c L1 L2 L3 R1 R2 R3 a1 a2 a3 x1 x2 x3 b1 b2 b3 y1 y2 y3 w
 by_cases k2:kind=2
 ·subst k2;rw [if_neg k1,if_neg k3,if_neg k4,if_pos rfl];by_cases hd:dir<1∨3<dir
  ·have e:cS dir left right=1:=if_pos hd;rw [e];exact Js name left right dir A n c L1 L2 L3 R1 R2 R3 a1 a2 a3 x1 x2 x3 b1 b2 b3 y1 y2 y3 w hd
  rcases (show dir=1∨dir=2∨dir=3 by omega)with rfl | rfl | rfl;exact Ev name left right A n c L1 L2 L3 R1 R2 R3 a1 a2 a3 x1 x2 x3 b1 b2 b3 y1 y2 y3 w l1 l2 l3 yU wE yW r1 r2 r3 Ad wI zR;exact EM name left right A n c L1 L2 L3 R1 R2 R3 a1 a2 a3 x1 x2 x3 b1 b2 b3 y1 y2 y3 w l1 l2 l3 yU wE yW r1 r2 r3 Ad wI zR;exact EC name left right A n c L1 L2 L3 R1 R2 R3 a1 a2 a3 x1 x2 x3 b1 b2 b3 y1 y2 y3 w l1 l2 l3 yU wE yW r1 r2 r3 Ad wI zR
 rw [if_neg k1,if_neg k3,if_neg k4,if_neg k2];exact E1 name left right kind dir A n c L1 L2 L3 R1 R2 R3 a1 a2 a3 x1 x2 x3 b1 b2 b3 y1 y2 y3 w k1 k2 k3 k4
def oH (r:Int):Bool:=decide (0≤r) && !decide (r=10)
def eN (L:List Int):Nat→Nat→Nat
  | 0,i=>aN L i
  | f+1,i=>if pk L (aN L i)=35 then eN L f (aC oH L (aN L i))else aN L i
def aB (L:List Int) (i:Nat):Nat:=eN L (L.length+1) i
def jN (r:Int):Bool:=(decide (97≤r) && decide (r≤122)) || decide (r=95)
def z8 (r:Int):Bool:=decide (48≤r) && decide (r≤57)
def bf (L:List Int) (i:Nat):Nat:=if jN (pk L i)=true then aC (fun r=>jN r || z8 r) L i else i
def gJ (L:List Int) (i:Nat):ByteArray:=runesBytes (aL L i (bf L i))
def gv (L:List Int) (i:Nat):jP ByteArray:=if dY (gJ L i)=true then .ok (gJ L i,bf L i)else .error (7,i)
def kE (r:Int):Bool:=decide (0≤r) && !decide (r=39)
def ey:ByteArray:=⟨#[]⟩
def lM (x:Int):aE:=⟨1,x,[],ey⟩
def fU (L:List Int) (i:Nat):jP (List aE) :=
  if pk L (aC kE L (i+1))=39 then .ok ((aL L (i+1) (aC kE L (i+1))).map lM,aC kE L (i+1)+1)else .error (2,aC kE L (i+1))
def b7 (L:List Int) (a:Nat) (out:List aE) (cur:Int):Except (Int × Nat) (Option ((List aE × Int) × Nat)) :=
  if pk L a=124 then (if 0≤cur then .error (5,a)else .ok (some ((out,(out.length:Int)),a+1)))
  else if pk L a=91 then match bE L 20 a with | .error e=>.error e | .ok (s,j)=>.ok (some ((out++[⟨2,0,s,ey⟩],cur),j))
  else if pk L a=36∧jN (pk L (a+1))=true then match gv L (a+1)with | .error e=>.error e | .ok (s,j)=>.ok (some ((out++[⟨3,0,[],s⟩],cur),j))
  else if pk L a=39 then match fU L a with | .error e=>.error e | .ok (l,j)=>.ok (some ((out++l,cur),j))
  else if pk L a=92∨cW (pk L a)=true then match cT L a with | .error e=>.error e | .ok (x,j)=>if cV x=true then .ok (some ((out++[lM x],cur),j))else .error (3,a)
  else .ok none
def cI (L:List Int):Nat→Nat→List aE→Int→jP (List aE × Int)
  | 0,i,_,_=>.error (2,i)
  | f+1,i,out,cur=>match b7 L (aB L i) out cur with
    | .error e=>.error e
    | .ok none=>.ok ((out,cur),aB L i)
    | .ok (some ((o,c),j))=>if 20<o.length then .error (5,aB L i)else cI L f j o c
def cA (L:List Int) (i:Nat):jP (List aE × Int):=cI L (L.length+1) i [] (-1)
def dI (L:List Int) (start:Bool) (a:Nat):jP (List aE × List aE × Int) :=
  match cA L a with
  | .error e=>.error e
  | .ok ((l,c),j)=>
    if pk L j=123 then (if 0≤c then .error (8,a)else match cA L (j+1)with | .error e=>.error e | .ok ((l2,c2),j2)=>.ok ((l,l2,c2),j2))
    else if start=true then .error (2,j)else .ok (([],l,c),j)
def dZ (L:List Int) (j:Nat):jP (List aE × Bool) :=
  if pk L j=125 then match cA L (j+1)with
    | .error e=>.error e
    | .ok ((l,c),k)=>if 0≤c then .error (8,j+1)else if pk L k=36 then .ok ((l,true),k+1)else .ok ((l,false),k)
  else .ok (([],false),j)
def dG (L:List Int) (i:Nat):jP bO :=
  match dI L (decide (pk L (aB L i)=94)) (if pk L (aB L i)=94 then aB L i+1 else aB L i)with
  | .error e=>.error e
  | .ok ((b,s,c),j)=>match dZ L j with
    | .error e=>.error e
    | .ok ((a,fin),k)=>.ok (⟨decide (pk L (aB L i)=94),fin,b,s,a,c⟩,aB L k)
def eJ (L:List Int) (i:Nat):jP Int :=
  if pk L i=62 then .ok (1,i+1)else if pk L i=60∧pk L (i+1)=62 then .ok (3,i+2)
  else match aR L i 60 with | .error e=>.error e | .ok j=>.ok (2,j)
def cQ:bO:=⟨false,false,[],[],[],0⟩
def iO (L:List Int) (i:Nat):jP aF :=
  match dG L i with
  | .error e=>.error e
  | .ok (l,j)=>match eJ L j with
    | .error e=>.error e
    | .ok (d,k)=>match dG L k with
      | .error e=>.error e
      | .ok (r,m)=>if fG ⟨2,ey,[],d,l,r⟩≠0 then .error (fG ⟨2,ey,[],d,l,r⟩,i)else .ok (⟨2,ey,[],d,l,r⟩,m)
def iQ (L:List Int) (i:Nat):jP aF :=
  match aR L (i+1) 58 with
  | .error e=>.error e
  | .ok j=>
    if pk L (aB L j)=91 then match bE L 20 (aB L j)with | .error e=>.error e | .ok (s,k)=>.ok (⟨3,ey,s,0,cQ,cQ⟩,k)
    else if jy (gJ L (aB L j))=true then .ok (⟨4,gJ L (aB L j),[],0,cQ,cQ⟩,bf L (aB L j))else .error (7,aB L j)
def mY (L:List Int) (i:Nat):jP aF :=
  match gv L (i+1)with
  | .error e=>.error e
  | .ok (s,j)=>match aR L (aB L j) 61 with
    | .error e=>.error e
    | .ok k=>match bE L 20 (aB L k)with | .error e=>.error e | .ok (t,m)=>.ok (⟨1,s,t,0,cQ,cQ⟩,m)
def iL (L:List Int) (i:Nat):jP aF :=
  if pk L i=58 then iQ L i
  else if pk L i=36∧pk L (aB L (bf L (i+1)))=61 then mY L i
  else iO L i
def fQ (L:List Int):Nat→Nat→List aF→Except (Int × Nat) (List aF)
  | 0,i,_=>.error (2,i)
  | f+1,i,l=>
    if pk L (aB L i)<0 then .ok l
    else if l.length=200 then .error (5,aB L i)
    else match iL L (aB L i)with
      | .error e=>.error e
      | .ok (p,j)=>match aR L (aB L j) 59 with
        | .error e=>.error e
        | .ok k=>fQ L f k (l++[p])
def gU (L:List Int):List aF × (Int × Int) :=
  if 16000<L.length then ([],(4,0))
  else match fQ L (L.length+1) 0 []with
    | .error (e,p)=>([],(e,(p:Int)))
    | .ok l=>(l,(0,0))
theorem Hu (L:List Int):∀ f i,i≤eN L f i:=by
 intro f;induction f with
 | zero=>exact fun i=>ef L i
 | succ f ih=>
  intro i;rw [eN];split;exact Nat.le_trans (ef L i) (Nat.le_trans (eK _ _ _) (ih _));exact ef L i
theorem pP {L:List Int} {i:Nat} (h:i≤L.length):aN L i≤L.length:=(gT h).2
theorem FW (L:List Int):∀ f i,i≤L.length→eN L f i≤L.length:=by
 intro f;induction f with
 | zero=>exact fun i h=>pP h
 | succ f ih=>
  intro i h;rw [eN];split;exact ih _ (gT (pP h)).2;exact pP h
theorem dm (L:List Int) (i:Nat):i≤aB L i:=Hu L _ i
theorem nE {L:List Int} {i:Nat} (h:i≤L.length):aB L i≤L.length:=FW L _ i h
theorem vJ (L:List Int) (i:Nat):i≤bf L i:=by
 unfold bf;split;exact eK _ _ _;exact Nat.le_refl _
theorem jW {L:List Int} {i:Nat} (h:i≤L.length):bf L i≤L.length:=by
 unfold bf;split;exact(gT h).2;exact h
theorem j7 {L:List Int} {i j:Nat} {s:ByteArray} (h:gv L i=.ok (s,j)):i<j∧dY s=true∧s=gJ L i∧j=bf L i:=by
 unfold gv at h;split at h
 ·rename_i hn;injection h with h;injection h with h1 h2;subst h1 h2;refine⟨?_,hn,rfl,rfl⟩;rcases Nat.lt_or_ge i (bf L i)with hl | hl;exact hl;have he:bf L i=i:=Nat.le_antisymm hl (vJ L i);have ht:gJ L i=runesBytes []:=by
   unfold gJ aL;rw [he,Nat.sub_self];rfl
  rw [ht]at hn;exact absurd hn (by unfold dY;simp [show(runesBytes []).size=0 from rfl])
 cases h
theorem vw {L:List Int} {i j:Nat} {l:List aE} (h:fU L i=.ok (l,j)):i+1<j∧j≤L.length:=by
 unfold fU at h;split at h
 ·rename_i hn;injection h with h;injection h with h1 h2;have hlt:=bu (L:=L) (i:=aC kE L (i+1)) (by omega);have:=eK kE L (i+1);omega
 cases h
theorem vk {L:List Int} (hL:cn L) {a j:Nat} {out o:List aE} {cur c:Int} (h:b7 L a out cur=.ok (some ((o,c),j))):a<j∧out.length≤o.length:=by
 unfold b7 at h;split at h
 ·split at h
  ·cases h
  injection h with h;injection h with h;injection h with h1 h2;injection h1 with h1 h3;subst h1 h2;exact⟨by omega,Nat.le_refl _⟩
 split at h
 ·split at h
  ·cases h
  rename_i s j' hs;injection h with h;injection h with h;injection h with h1 h2;injection h1 with h1 h3;subst h1 h2;exact⟨(kK hL 20 _ _ _ hs).1,by simp⟩
 split at h
 ·split at h
  ·cases h
  rename_i s j' hs;injection h with h;injection h with h;injection h with h1 h2;injection h1 with h1 h3;subst h1 h2;have:=(j7 hs).1;exact⟨by omega,by simp⟩
 split at h
 ·split at h
  ·cases h
  rename_i s j' hs;injection h with h;injection h with h;injection h with h1 h2;injection h1 with h1 h3;subst h1 h2;have:=(vw hs).1;exact⟨by omega,by simp⟩
 split at h
 ·split at h
  ·cases h
  rename_i x j' hs;split at h
  ·injection h with h;injection h with h;injection h with h1 h2;injection h1 with h1 h3;subst h1 h2;exact⟨(mK hL hs).1,by simp⟩
  cases h
 injection h with h;cases h
structure G7 (p:Nat) (L L':List Int):Prop where
  here:∀ k,k<L.length→L'[p+k]? = L[k]?
  stop:pk L' (p+L.length)=10∨pk L' (p+L.length)=32∨pk L' (p+L.length) = -1
def F3 {α:Type} (p:Nat) (L:List Int) (r r':jP α):Prop:=∀ v j,r=.ok (v,j)→j≤L.length∧r'=.ok (v,p+j)
section
variable {p : Nat} {L L' : List Int} (E : G7 p L L')
include E
theorem G7.pk {k:Nat} (hk:k<L.length):pk L' (p+k)=pk L k:=by
 unfold Go.Proofs.YtkggjgeihhialaaGreatDoor.pk;rw [E.here k hk]
theorem G7.is {k:Nat} (hk:k≤L.length) {r:Int} (h1:r≠10) (h2:r ≠ -1) (h3:r≠32):Go.Proofs.YtkggjgeihhialaaGreatDoor.pk L' (p+k)=r↔Go.Proofs.YtkggjgeihhialaaGreatDoor.pk L k=r:=by
 rcases Nat.lt_or_ge k L.length with hl | hl
 ·rw [E.pk hl]
 have hk:k=L.length:=(by omega);subst hk;rw [pG (Nat.le_refl _)];rcases E.stop with e | e | e <;> rw [e] <;> constructor <;> intro h' <;> omega
theorem G7.lt {k:Nat} (hk:k<L.length):p+k<L'.length:=by
 have:=E.here k hk;rw [List.getElem?_eq_getElem hk]at this;exact(List.getElem?_eq_some_iff.1 this).1
theorem G7.len:L.length≤L'.length:=by
 rcases Nat.eq_zero_or_pos L.length with h | h;omega;have:=E.lt (k:=L.length - 1) (by omega);omega
theorem G7.run {q:Int→Bool}:∀ (d i:Nat),L.length - i=d→i≤L.length→(aC q L i<L.length∨q (Go.Proofs.YtkggjgeihhialaaGreatDoor.pk L' (p+L.length))=false)→aC q L' (p+i)=p+aC q L i:=by
 intro d;induction d with
 | zero=>
  intro i hd hi hq;have e:i=L.length:=(by omega);subst e;have e2:aC q L L.length=L.length:=cJ (fun h=>absurd h (Nat.lt_irrefl _));rw [e2]at hq ⊢;rcases hq with hq | hq;omega;exact cJ (fun _=>hq)
 | succ d ih=>
  intro i hd hi hq;have hl:i<L.length:=(by omega);cases hv:q (Go.Proofs.YtkggjgeihhialaaGreatDoor.pk L i)with
  | true=>
   rw [dN hl hv]at hq ⊢;rw [dN (E.lt hl) (by rw [E.pk hl];exact hv),Nat.add_assoc];exact ih (i+1) (by omega) (by omega) hq
  | false=>rw [cJ (fun _=>hv),cJ (fun _=>by rw [E.pk hl];exact hv)]
theorem G7.RG {q:Int→Bool} (h1:q 10=false) (h2:q 32=false) (h3:q (-1)=false) {i:Nat} (hi:i≤L.length):aC q L' (p+i)=p+aC q L i:=by
 refine E.run _ i rfl hi (.inr ?_);rcases E.stop with e | e | e <;> rw [e] <;> assumption
theorem G7.skip {i:Nat} (hi:i≤L.length) (h:aN L i<L.length):aN L' (p+i)=p+aN L i:=E.run _ i rfl hi (.inl h)
theorem G7.text {i j:Nat} (hj:j≤L.length):aL L' (p+i) (p+j)=aL L i j:=by
 unfold aL;rw [show p+j - (p+i)=j - i by omega];apply List.ext_getElem?;intro k;rcases Nat.lt_or_ge k (j - i)with hk | hk
 ·rw [List.getElem?_take_of_lt hk,List.getElem?_take_of_lt hk,List.getElem?_drop,List.getElem?_drop,Nat.add_assoc];exact E.here _ (by omega)
 rw [List.getElem?_take_eq_none hk,List.getElem?_take_eq_none hk]
theorem iY {i j:Nat} {r:Int} (h:aR L i r=.ok j) (hr:r ≠ -1):j≤L.length∧aR L' (p+i) r=.ok (p+j):=by
 obtain⟨rfl,hp⟩:=fJ h;have hl:i<L.length:=bu (by rw [hp];exact hr);refine⟨hl,?_⟩;rw [Jr (by rw [E.pk hl];exact hp)];rfl
theorem Oo (i:Nat):F3 p L (ku L i) (ku L' (p+i)):=by
 intro v j h;unfold ku at h ⊢;cases h1:aR L (i+1) 123 with
 | error e=>rw [h1]at h;cases h
 | ok a=>
  obtain⟨ha,e1⟩:=iY E h1 (by decide);rw [h1]at h;rw [show p+i+1=p+(i+1) from rfl,e1];simp only at h ⊢;rw [E.RG rfl rfl rfl ha,show p+aC eM L a - (p+a)=aC eM L a - a by omega];by_cases hn:aC eM L a - a<1∨6<aC eM L a - a
  ·rw [if_pos hn]at h;cases h
  rw [if_neg hn]at h ⊢;cases h2:aR L (aC eM L a) 125 with
  | error e=>rw [h2]at h;cases h
  | ok b=>
   obtain⟨hb,e2⟩:=iY E h2 (by decide);rw [h2]at h;rw [e2];simp only at h ⊢;rw [E.text (gT ha).2];by_cases hm:1114111<ee (aL L a (aC eM L a))
   ·rw [if_pos hm]at h;cases h
   rw [if_neg hm]at h ⊢;injection h with h;injection h with h3 h4;subst h3 h4;exact⟨hb,rfl⟩
theorem wj (i:Nat):F3 p L (cT L i) (cT L' (p+i)):=by
 intro v j h;unfold cT at h ⊢;by_cases hp:cW (Go.Proofs.YtkggjgeihhialaaGreatDoor.pk L i)=true
 ·have hl:i<L.length:=bu (fun e=>by rw [e]at hp;exact absurd hp (by decide));rw [if_pos hp]at h;rw [E.pk hl,if_pos hp];injection h with h;injection h with h3 h4;subst h3 h4;exact⟨hl,rfl⟩
 rw [if_neg hp]at h;by_cases wL:Go.Proofs.YtkggjgeihhialaaGreatDoor.pk L i≠92
 ·rw [if_pos wL]at h;cases h
 rw [if_neg wL]at h;have hl:i<L.length:=bu (by omega);rw [E.pk hl,if_neg hp,if_neg wL];have kB:i+1<L.length:=bu (fun e=>by rw [e]at h;simp at h);rw [show p+i+1=p+(i+1) from rfl,E.pk kB];by_cases c1:Go.Proofs.YtkggjgeihhialaaGreatDoor.pk L (i+1)=110
 ·rw [if_pos c1]at h ⊢;injection h with h;injection h with h3 h4;subst h3 h4;exact⟨kB,rfl⟩
 rw [if_neg c1]at h ⊢;by_cases c2:Go.Proofs.YtkggjgeihhialaaGreatDoor.pk L (i+1)=116
 ·rw [if_pos c2]at h ⊢;injection h with h;injection h with h3 h4;subst h3 h4;exact⟨kB,rfl⟩
 rw [if_neg c2]at h ⊢;by_cases c3:Go.Proofs.YtkggjgeihhialaaGreatDoor.pk L (i+1)=117
 ·rw [if_pos c3]at h ⊢;exact Oo E _ _ _ h
 rw [if_neg c3]at h ⊢;by_cases c4:Go.Proofs.YtkggjgeihhialaaGreatDoor.pk L (i+1)<0∨EF (Go.Proofs.YtkggjgeihhialaaGreatDoor.pk L (i+1))=true
 ·rw [if_pos c4]at h;cases h
 rw [if_neg c4]at h ⊢;injection h with h;injection h with h3 h4;subst h3 h4;exact⟨kB,rfl⟩
theorem JR (i:Nat):F3 p L (iZ L i) (iZ L' (p+i)):=by
 intro v j h;unfold iZ at h ⊢;cases h1:cT L i with
 | error e=>rw [h1]at h;cases h
 | ok q=>
  obtain⟨low,a⟩:=q;obtain⟨ha,e1⟩:=wj E _ _ _ h1;rw [h1]at h;rw [e1];simp only at h ⊢;have c1:(Go.Proofs.YtkggjgeihhialaaGreatDoor.pk L' (p+a)=45∧Go.Proofs.YtkggjgeihhialaaGreatDoor.pk L' (p+a+1)≠91)↔(Go.Proofs.YtkggjgeihhialaaGreatDoor.pk L a=45∧Go.Proofs.YtkggjgeihhialaaGreatDoor.pk L (a+1)≠91):=by
   rw [E.is ha (by decide) (by decide) (by decide)];refine and_congr_right (fun PF=>?_);have hl:a<L.length:=bu (by omega);exact not_congr (E.is (k:=a+1) hl (by decide) (by decide) (by decide))
  by_cases hc:Go.Proofs.YtkggjgeihhialaaGreatDoor.pk L a=45∧Go.Proofs.YtkggjgeihhialaaGreatDoor.pk L (a+1)≠91
  ·rw [if_pos hc]at h;rw [if_pos (c1.2 hc)];cases h2:cT L (a+1)with
   | error e=>rw [h2]at h;cases h
   | ok q=>
    obtain⟨high,b⟩:=q;obtain⟨hb,e2⟩:=wj E _ _ _ h2;rw [h2]at h;rw [show p+a+1=p+(a+1) from rfl,e2];simp only at h ⊢;by_cases hh:high<low
    ·rw [if_pos hh]at h;cases h
    rw [if_neg hh]at h ⊢;injection h with h;injection h with h3 h4;subst h3 h4;exact⟨hb,rfl⟩
  rw [if_neg hc]at h;rw [if_neg (fun x=>hc (c1.1 x))];injection h with h;injection h with h3 h4;subst h3 h4;exact⟨ha,rfl⟩
theorem Hj {i:Nat} (hi:i+2≤L.length):F3 p L (eP L i) (eP L' (p+i)):=by
 intro v j h;unfold eP at h ⊢;rw [show p+i+2=p+(i+2) from rfl,E.RG rfl rfl rfl hi,E.text (gT hi).2];cases h0:gx (aL L (i+2) (aC cW L (i+2)))with
 | none=>rw [h0]at h;cases h
 | some s=>
  rw [h0]at h;simp only at h ⊢;cases h1:aR L (aC cW L (i+2)) 58 with
  | error e=>rw [h1]at h;cases h
  | ok a=>
   obtain⟨ha,e1⟩:=iY E h1 (by decide);rw [h1]at h;rw [e1];simp only at h ⊢;cases h2:aR L a 93 with
   | error e=>rw [h2]at h;cases h
   | ok b=>
    obtain⟨hb,e2⟩:=iY E h2 (by decide);rw [h2]at h;rw [e2];simp only at h ⊢;injection h with h;injection h with h3 h4;subst h3 h4;exact⟨hb,rfl⟩
def Re (p:Nat) (L:List Int) (inner inner':Nat→jP ag):Prop:=∀ i s j,inner i=.ok (s,j)→i<j∧j≤L.length∧inner' (p+i)=.ok (s,p+j)
theorem Ky {inner inner':Nat→jP ag} (hI:Re p L inner inner') (i:Nat) (s:ag) (j:Nat) (h:dc inner L i=.ok (s,j)):i<L.length∧j≤L.length∧dc inner' L' (p+i)=.ok (s,p+j):=by
 have hl:i<L.length:=by
  refine bu (fun e=>?_);unfold dc at h;rw [if_neg (fun x=>by have:=x.1;omega),if_neg (by omega),if_neg (by omega)]at h;unfold iZ cT at h;rw [e]at h;simp [cW]at h
 refine⟨hl,?_⟩;unfold dc at h ⊢;rw [E.pk hl,show p+i+1=p+(i+1) from rfl];have c1:=E.is (k:=i+1) hl (r:=58) (by decide) (by decide) (by decide);by_cases hc:Go.Proofs.YtkggjgeihhialaaGreatDoor.pk L i=91∧Go.Proofs.YtkggjgeihhialaaGreatDoor.pk L (i+1)=58
 ·rw [if_pos hc]at h;rw [if_pos ⟨hc.1,c1.2 hc.2⟩];have kB:i+1<L.length:=bu (by omega);exact Hj E kB _ _ h
 rw [if_neg hc]at h;rw [if_neg (fun x=>hc ⟨x.1,c1.1 x.2⟩)];by_cases j5:Go.Proofs.YtkggjgeihhialaaGreatDoor.pk L i=91
 ·rw [if_pos j5]at h ⊢;exact(hI _ _ _ h).2
 rw [if_neg j5]at h ⊢;by_cases OC:Go.Proofs.YtkggjgeihhialaaGreatDoor.pk L i=38∨Go.Proofs.YtkggjgeihhialaaGreatDoor.pk L i=45
 ·rw [if_pos OC]at h ⊢;obtain⟨g1,g2,g3⟩:=hI _ _ _ h;rw [E.skip (i:=i+1) hl (by omega)];exact⟨g2,g3⟩
 rw [if_neg OC]at h ⊢;cases h1:iZ L i with
 | error e=>rw [h1]at h;cases h
 | ok q=>
  obtain⟨x,a⟩:=q;obtain⟨ha,e1⟩:=JR E _ _ _ h1;rw [h1]at h;rw [e1];simp only at h ⊢;injection h with h;injection h with h3 h4;subst h3 h4;exact⟨ha,rfl⟩
theorem Gl {inner inner':Nat→jP ag} (hI:Re p L inner inner'):∀ (f f' i:Nat) (cur s:ag) (j:Nat),f≤f'→i≤L.length→dP inner L f i cur=.ok (s,j)→j≤L.length∧dP inner' L' f' (p+i) cur=.ok (s,p+j):=by
 intro f;induction f with
 | zero=>intro f' i cur s j _ _ h;unfold dP at h;cases h
 | succ f ih=>
  intro f' i cur s j hf hi h;obtain⟨f',rfl⟩:∃ g,f'=g+1:=⟨f' - 1,by omega⟩;rw [dP]at h ⊢;by_cases Nq:Go.Proofs.YtkggjgeihhialaaGreatDoor.pk L (aN L i)=93
  ·have hl:aN L i<L.length:=bu (by omega);rw [if_pos Nq]at h;rw [E.skip hi hl,E.pk hl,if_pos Nq];injection h with h;injection h with h3 h4;subst h3 h4;exact⟨hl,rfl⟩
  rw [if_neg Nq]at h;cases h1:dc inner L (aN L i)with
  | error e=>rw [h1]at h;cases h
  | ok q=>
   obtain⟨t,a⟩:=q;obtain⟨hl,ha,e1⟩:=Ky E hI _ _ _ h1;rw [h1]at h;rw [E.skip hi hl,E.pk hl,if_neg Nq,e1];simp only at h ⊢;by_cases hw:(mF (td (Go.Proofs.YtkggjgeihhialaaGreatDoor.pk L (aN L i))) cur t).2≠0
   ·rw [if_pos hw]at h;cases h
   rw [if_neg hw]at h ⊢;exact ih f' a _ _ _ (by omega) ha h
theorem zO (hL:cn L):∀ n,Re p L (bE L n) (bE L' n):=by
 intro n;induction n with
 | zero=>intro i s j h;unfold bE at h;cases h
 | succ n ih=>
  intro i s j h;refine⟨(kK hL (n+1) i s j h).1,?_⟩;rw [bE]at h ⊢;cases h1:aR L i 91 with
  | error e=>rw [h1]at h;cases h
  | ok a=>
   obtain⟨ha,e1⟩:=iY E h1 (by decide);rw [h1]at h;rw [e1];simp only at h ⊢;have c1:=E.is ha (r:=94) (by decide) (by decide) (by decide);have hst:(if Go.Proofs.YtkggjgeihhialaaGreatDoor.pk L' (p+a)=94 then p+a+1 else p+a)=p+(if Go.Proofs.YtkggjgeihhialaaGreatDoor.pk L a=94 then a+1 else a):=by
    by_cases mJ:Go.Proofs.YtkggjgeihhialaaGreatDoor.pk L a=94
    ·rw [if_pos mJ,if_pos (c1.2 mJ)];rfl
    rw [if_neg mJ,if_neg (fun x=>mJ (c1.1 x))]
   rw [hst];have EG:(if Go.Proofs.YtkggjgeihhialaaGreatDoor.pk L a=94 then a+1 else a)≤L.length:=by
    split
    ·rename_i mJ;exact bu (by omega)
    exact ha
   cases h2:dP (bE L n) L (L.length+1) (if Go.Proofs.YtkggjgeihhialaaGreatDoor.pk L a=94 then a+1 else a) []with
   | error e=>rw [h2]at h;cases h
   | ok q=>
    obtain⟨cur,k⟩:=q;obtain⟨hk,e2⟩:=Gl E ih _ (L'.length+1) _ _ _ _ (by have:=E.len;omega) EG h2;rw [h2]at h;rw [e2];simp only at h ⊢;by_cases mJ:Go.Proofs.YtkggjgeihhialaaGreatDoor.pk L a=94
    ·rw [if_pos mJ]at h;rw [if_pos (c1.2 mJ)];by_cases hw:(mF 94 cur []).2≠0
     ·rw [if_pos hw]at h;cases h
     rw [if_neg hw]at h ⊢;injection h with h;injection h with h3 h4;subst h3 h4;exact⟨hk,rfl⟩
    rw [if_neg mJ]at h;rw [if_neg (fun x=>mJ (c1.1 x))];injection h with h;injection h with h3 h4;subst h3 h4;exact⟨hk,rfl⟩
end
theorem wP (L:List Int):∀ f g i,L.length<f+i→L.length<g+i→eN L f i=eN L g i:=by
 have key:∀ g i,L.length<i→eN L g i=aN L i:=by
  intro g i h;cases g with
  | zero=>rfl
  | succ g=>
   rw [eN,if_neg];have e:aN L i=i:=cJ (fun h2=>absurd h2 (by omega));rw [e,pG (by omega)];decide
 intro f;induction f with
 | zero=>intro g i h1 h2;rw [key 0 i (by omega),key g i (by omega)]
 | succ f ih=>
  intro g i h1 h2;cases g with
  | zero=>rw [key 0 i (by omega),key (f+1) i (by omega)]
  | succ g=>
   rw [eN,eN];by_cases rG:pk L (aN L i)=35
   ·rw [if_pos rG,if_pos rG];have hl:aN L i<L.length:=bu (by omega);have h3:=ef L i;have h4:aN L i+1≤aC oH L (aN L i):=(by rw [dN hl (by rw [rG];rfl)];exact eK _ _ _);exact ih g _ (by omega) (by omega)
   rw [if_neg rG,if_neg rG]
theorem KW {L:List Int} {k:Nat} (rG:pk L k=35):k<L.length∧k+1≤aC oH L k:=by
 have hl:k<L.length:=bu (by omega);exact⟨hl,by rw [dN hl (by rw [rG];rfl)];exact eK _ _ _⟩
theorem nG (L:List Int) (i:Nat):aB L i=if pk L (aN L i)=35 then aB L (aC oH L (aN L i))else aN L i:=by
 show eN L (L.length+1) i=_;rw [eN];by_cases rG:pk L (aN L i)=35
 ·rw [if_pos rG,if_pos rG];have:=(KW rG).2;exact wP L _ _ _ (by omega) (by omega)
 rw [if_neg rG,if_neg rG]
theorem H7 {L:List Int} {i:Nat} (h1:pF (pk L i)=false) (h2:pk L i≠35):aB L i=i:=by
 have e:aN L i=i:=cJ (fun _=>h1);rw [nG,e,if_neg h2]
theorem KP {L:List Int} (hL:cn L):∀ (f i:Nat) (out:List aE) (cur:Int) (v:List aE × Int) (j:Nat),cI L f i out cur=.ok (v,j)→aB L i≤j:=by
 intro f;induction f with
 | zero=>intro i out cur v j h;rw [cI]at h;cases h
 | succ f ih=>
  intro i out cur v j h;rw [cI]at h;cases he:b7 L (aB L i) out cur with
  | error e=>rw [he]at h;cases h
  | ok q=>
   rw [he]at h;cases q with
   | none=>simp only at h;injection h with h;injection h with h1 h2;omega
   | some q=>
    obtain⟨⟨o,c⟩,k⟩:=q;simp only at h;by_cases h20:20<o.length
    ·rw [if_pos h20]at h;cases h
    rw [if_neg h20]at h;have h1:=(vk hL he).1;have h2:=ih _ _ _ _ _ h;have h3:=dm L k;omega
section
variable {p : Nat} {L L' : List Int} (E : G7 p L L')
include E
theorem fM:∀ (d i:Nat),L.length - i=d→i≤L.length→(aB L i<L.length∨pk L' (p+L.length) = -1)→aB L' (p+i)=p+aB L i:=by
 intro d;induction d using Nat.strongRecOn with
 | _ d ih=>
  intro i hd hi hq;rw [nG L i]at hq;rw [nG L i,nG L' (p+i)];by_cases rG:pk L (aN L i)=35
  ·obtain⟨hl,hm⟩:=KW rG;rw [if_pos rG]at hq ⊢;rw [E.skip hi hl,E.pk hl,if_pos rG];have h1:=ef L i;have h2:aC oH L (aN L i)≤L.length:=(gT (Nat.le_of_lt hl)).2;have h3:=dm L (aC oH L (aN L i));rw [E.run _ _ rfl (Nat.le_of_lt hl) (by rcases hq with hq | hq;exact .inl (by omega);exact .inr (by rw [hq];rfl))];exact ih _ (by omega) _ rfl h2 hq
  rw [if_neg rG]at hq ⊢;have hs:aN L i≤L.length:=pP hi;have e:aN L' (p+i)=p+aN L i:=E.run _ i rfl hi (by rcases hq with hq | hq;exact .inl hq;exact .inr (by rw [hq];rfl));rw [e,if_neg];rcases Nat.lt_or_ge (aN L i) L.length with hl | hl
  ·rw [E.pk hl];exact rG
  rcases hq with hq | hq;omega;rw [show aN L i=L.length by omega,hq];decide
theorem i4 {i:Nat} (hi:i≤L.length):bf L' (p+i)=p+bf L i:=by
 unfold bf;rcases Nat.lt_or_ge i L.length with hl | hl
 ·rw [E.pk hl];split;exact E.RG (by decide) (by decide) (by decide) hi;rfl
 have e:i=L.length:=(by omega);subst e;rw [pG (Nat.le_refl _),if_neg (by decide:¬ jN (-1)=true),if_neg];rcases E.stop with e | e | e <;> rw [e] <;> decide
theorem yB {i:Nat} (hi:i≤L.length):gJ L' (p+i)=gJ L i:=by
 unfold gJ;rw [i4 E hi,E.text (jW hi)]
theorem CC {i:Nat} (hi:i≤L.length):F3 p L (gv L i) (gv L' (p+i)):=by
 intro v j h;have hj:=(j7 h).2.2.2;unfold gv at h ⊢;rw [yB E hi,i4 E hi];split at h
 ·rename_i hn;rw [if_pos hn];injection h with h;injection h with h3 h4;subst h3 h4;exact⟨jW hi,rfl⟩
 cases h
theorem DV {i:Nat} (hi:i<L.length):F3 p L (fU L i) (fU L' (p+i)):=by
 intro v j h;have hj:=(vw h).2;refine⟨hj,?_⟩;unfold fU at h ⊢;by_cases wT:pk L (aC kE L (i+1))=39
 ·have hl:aC kE L (i+1)<L.length:=bu (by omega);rw [if_pos wT]at h;rw [show p+i+1=p+(i+1) from rfl,E.run _ (i+1) rfl hi (.inl hl),E.pk hl,if_pos wT,E.text (Nat.le_of_lt hl)];injection h with h;injection h with h3 h4;subst h3 h4;rfl
 rw [if_neg wT]at h;cases h
theorem Ff {k:Nat} (hk:k≤L.length):jN (pk L' (p+k))=jN (pk L k):=by
 rcases Nat.lt_or_ge k L.length with hl | hl
 ·rw [E.pk hl]
 have e:k=L.length:=(by omega);subst e;rw [pG (Nat.le_refl _)];rcases E.stop with e | e | e <;> rw [e] <;> decide
theorem wR {a:Nat} (ha:a<L.length) {out:List aE} {cur:Int} (h:b7 L a out cur=.ok none):b7 L' (p+a) out cur=.ok none:=by
 unfold b7 at h ⊢;rw [E.pk ha,show p+a+1=p+(a+1) from rfl,Ff E ha];by_cases tv:pk L a=124
 ·rw [if_pos tv]at h;split at h <;> first | cases h | (injection h with h;cases h)
 rw [if_neg tv]at h ⊢;by_cases j5:pk L a=91
 ·rw [if_pos j5]at h;split at h <;> first | cases h | (injection h with h;cases h)
 rw [if_neg j5]at h ⊢;by_cases kD:pk L a=36∧jN (pk L (a+1))=true
 ·rw [if_pos kD]at h;split at h <;> first | cases h | (injection h with h;cases h)
 rw [if_neg kD]at h ⊢;by_cases wT:pk L a=39
 ·rw [if_pos wT]at h;split at h <;> first | cases h | (injection h with h;cases h)
 rw [if_neg wT]at h ⊢;by_cases wL:pk L a=92∨cW (pk L a)=true
 ·rw [if_pos wL]at h;split at h
  ·cases h
  split at h <;> first | cases h | (injection h with h;cases h)
 rw [if_neg wL]
theorem Jt (hL:cn L) {a j:Nat} {out o:List aE} {cur c:Int} (h:b7 L a out cur=.ok (some ((o,c),j))):a<j∧j≤L.length∧b7 L' (p+a) out cur=.ok (some ((o,c),p+j)):=by
 have haj:=(vk hL h).1;have ha:a<L.length:=by
  refine bu (fun e=>?_);unfold b7 at h;rw [e]at h;simp [cW]at h
 refine⟨haj,?_⟩;unfold b7 at h ⊢;rw [E.pk ha,show p+a+1=p+(a+1) from rfl,Ff E ha];by_cases tv:pk L a=124
 ·rw [if_pos tv]at h ⊢;by_cases hc:0≤cur
  ·rw [if_pos hc]at h;cases h
  rw [if_neg hc]at h ⊢;injection h with h;injection h with h;injection h with h1 h2;injection h1 with h1 h3;subst h1 h2 h3;exact⟨ha,rfl⟩
 rw [if_neg tv]at h ⊢;by_cases j5:pk L a=91
 ·rw [if_pos j5]at h ⊢;cases hs:bE L 20 a with
  | error e=>rw [hs]at h;cases h
  | ok q=>
   obtain⟨s,k⟩:=q;obtain⟨_,hk,e1⟩:=zO E hL 20 _ _ _ hs;rw [hs]at h;rw [e1];simp only at h ⊢;injection h with h;injection h with h;injection h with h1 h2;injection h1 with h1 h3;subst h1 h2 h3;exact⟨hk,rfl⟩
 rw [if_neg j5]at h ⊢;by_cases kD:pk L a=36∧jN (pk L (a+1))=true
 ·rw [if_pos kD]at h ⊢;cases hs:gv L (a+1)with
  | error e=>rw [hs]at h;cases h
  | ok q=>
   obtain⟨s,k⟩:=q;obtain⟨hk,e1⟩:=CC E ha _ _ hs;rw [hs]at h;rw [e1];simp only at h ⊢;injection h with h;injection h with h;injection h with h1 h2;injection h1 with h1 h3;subst h1 h2 h3;exact⟨hk,rfl⟩
 rw [if_neg kD]at h ⊢;by_cases wT:pk L a=39
 ·rw [if_pos wT]at h ⊢;cases hs:fU L a with
  | error e=>rw [hs]at h;cases h
  | ok q=>
   obtain⟨s,k⟩:=q;obtain⟨hk,e1⟩:=DV E ha _ _ hs;rw [hs]at h;rw [e1];simp only at h ⊢;injection h with h;injection h with h;injection h with h1 h2;injection h1 with h1 h3;subst h1 h2 h3;exact⟨hk,rfl⟩
 rw [if_neg wT]at h ⊢;by_cases wL:pk L a=92∨cW (pk L a)=true
 ·rw [if_pos wL]at h ⊢;cases hs:cT L a with
  | error e=>rw [hs]at h;cases h
  | ok q=>
   obtain⟨x,k⟩:=q;obtain⟨hk,e1⟩:=wj E _ _ _ hs;rw [hs]at h;rw [e1];simp only at h ⊢;by_cases hr:cV x=true
   ·rw [if_pos hr]at h ⊢;injection h with h;injection h with h;injection h with h1 h2;injection h1 with h1 h3;subst h1 h2 h3;exact⟨hk,rfl⟩
   rw [if_neg hr]at h;cases h
 rw [if_neg wL]at h;injection h with h;cases h
theorem Hv (hL:cn L):∀ (f f' i:Nat) (out:List aE) (cur:Int) (v:List aE × Int) (j:Nat),f≤f'→i≤L.length→cI L f i out cur=.ok (v,j)→i≤j∧j≤L.length∧(j<L.length→cI L' f' (p+i) out cur=.ok (v,p+j)):=by
 intro f;induction f with
 | zero=>intro f' i out cur v j _ _ h;rw [cI]at h;cases h
 | succ f ih=>
  intro f' i out cur v j hf hi h;obtain⟨f',rfl⟩:∃ g,f'=g+1:=⟨f' - 1,by omega⟩;have h0:=dm L i;have h1:=nE hi;rw [cI]at h;cases he:b7 L (aB L i) out cur with
  | error e=>rw [he]at h;cases h
  | ok q=>
   rw [he]at h;cases q with
   | none=>
    simp only at h;injection h with h;injection h with h3 h4;subst h3 h4;exact⟨h0,h1,fun hj=>by rw [cI,fM E _ i rfl hi (.inl hj),wR E hj he]⟩
   | some q=>
    obtain⟨⟨o,c⟩,k⟩:=q;simp only at h;by_cases h20:20<o.length
    ·rw [if_pos h20]at h;cases h
    rw [if_neg h20]at h;obtain⟨g1,g2,g3⟩:=Jt E hL he;obtain⟨k1,k2,k3⟩:=ih f' k o c v j (by omega) g2 h;refine⟨by omega,k2,fun hj=>?_⟩;rw [cI,fM E _ i rfl hi (.inl (by omega)),g3];simp only;rw [if_neg h20];exact k3 hj
theorem j9 (hL:cn L) {i:Nat} {v:List aE × Int} {j:Nat} (hi:i≤L.length) (h:cA L i=.ok (v,j)):i≤j∧j≤L.length∧(j<L.length→cA L' (p+i)=.ok (v,p+j)) :=
  Hv E hL _ _ _ _ _ _ _ (by have:=E.len;omega) hi h
theorem L4 (hL:cn L) {start:Bool} {a:Nat} {v:List aE × List aE × Int} {j:Nat} (ha:a≤L.length) (h:dI L start a=.ok (v,j)):a≤j∧j≤L.length∧(j<L.length→dI L' start (p+a)=.ok (v,p+j)):=by
 unfold dI at h;cases hi:cA L a with
 | error e=>rw [hi]at h;cases h
 | ok q=>
  obtain⟨⟨l,c⟩,j1⟩:=q;obtain⟨g1,g2,g3⟩:=j9 E hL ha hi;rw [hi]at h;simp only at h;by_cases qO:pk L j1=123
  ·have kB:j1<L.length:=bu (by omega);rw [if_pos qO]at h;by_cases hc:0≤c
   ·rw [if_pos hc]at h;cases h
   rw [if_neg hc]at h;cases hi2:cA L (j1+1)with
   | error e=>rw [hi2]at h;cases h
   | ok q=>
    obtain⟨⟨l2,c2⟩,j2⟩:=q;obtain⟨k1,k2,k3⟩:=j9 E hL kB hi2;rw [hi2]at h;simp only at h;injection h with h;injection h with h3 h4;subst h3 h4;refine⟨by omega,k2,fun hj=>?_⟩;unfold dI;rw [g3 kB];simp only;rw [E.pk kB,if_pos qO,if_neg hc,show p+j1+1=p+(j1+1) from rfl,k3 hj]
  rw [if_neg qO]at h;by_cases hs:start=true
  ·rw [if_pos hs]at h;cases h
  rw [if_neg hs]at h;injection h with h;injection h with h3 h4;subst h3 h4;refine⟨g1,g2,fun hj=>?_⟩;unfold dI;rw [g3 hj];simp only;rw [E.pk hj,if_neg qO,if_neg hs]
theorem Cm (hL:cn L) {i:Nat} {v:List aE × Bool} {j:Nat} (hi:i≤L.length) (h:dZ L i=.ok (v,j)):i≤j∧j≤L.length∧(j<L.length→dZ L' (p+i)=.ok (v,p+j)):=by
 unfold dZ at h;by_cases vX:pk L i=125
 ·have hl:i<L.length:=bu (by omega);rw [if_pos vX]at h;cases hi2:cA L (i+1)with
  | error e=>rw [hi2]at h;cases h
  | ok q=>
   obtain⟨⟨l,c⟩,k⟩:=q;obtain⟨k1,k2,k3⟩:=j9 E hL hl hi2;rw [hi2]at h;simp only at h;by_cases hc:0≤c
   ·rw [if_pos hc]at h;cases h
   rw [if_neg hc]at h;by_cases kD:pk L k=36
   ·have jd:k<L.length:=bu (by omega);rw [if_pos kD]at h;injection h with h;injection h with h3 h4;subst h3 h4;refine⟨by omega,jd,fun hj=>?_⟩;unfold dZ;rw [E.pk hl,if_pos vX,show p+i+1=p+(i+1) from rfl,k3 jd];simp only;rw [if_neg hc,E.pk jd,if_pos kD];rfl
   rw [if_neg kD]at h;injection h with h;injection h with h3 h4;subst h3 h4;refine⟨by omega,k2,fun hj=>?_⟩;unfold dZ;rw [E.pk hl,if_pos vX,show p+i+1=p+(i+1) from rfl,k3 hj];simp only;rw [if_neg hc,E.pk hj,if_neg kD]
 rw [if_neg vX]at h;injection h with h;injection h with h3 h4;subst h3 h4;refine⟨Nat.le_refl _,hi,fun hj=>?_⟩;unfold dZ;rw [E.pk hj,if_neg vX]
theorem CT (hL:cn L) {i:Nat} {v:bO} {j:Nat} (hi:i≤L.length) (h:dG L i=.ok (v,j)):aB L i≤j∧j≤L.length∧(j<L.length→dG L' (p+i)=.ok (v,p+j)):=by
 unfold dG at h;obtain⟨a0,ha0⟩:∃ a0,aB L i=a0:=⟨_,rfl⟩;rw [ha0]at h;have aa7:a0≤L.length:=(by rw [← ha0];exact nE hi);obtain⟨a1,lP⟩:∃ a1,(if pk L a0=94 then a0+1 else a0)=a1:=⟨_,rfl⟩;rw [lP]at h;have YC:a0≤a1∧a1≤L.length:=by
  rw [← lP];split
  ·rename_i mJ;have:=bu (L:=L) (i:=a0) (by omega);omega
  exact⟨Nat.le_refl _,aa7⟩
 cases hh:dI L (decide (pk L a0=94)) a1 with
 | error e=>rw [hh]at h;cases h
 | ok q=>
  obtain⟨⟨b,s,c⟩,j1⟩:=q;obtain⟨g1,g2,g3⟩:=L4 E hL YC.2 hh;rw [hh]at h;simp only at h;cases ht:dZ L j1 with
  | error e=>rw [ht]at h;cases h
  | ok q=>
   obtain⟨⟨a,fin⟩,k⟩:=q;obtain⟨k1,k2,k3⟩:=Cm E hL g2 ht;rw [ht]at h;simp only at h;injection h with h;injection h with h3 h4;subst h3 h4;have h5:=dm L k;have h6:=nE k2;refine⟨by omega,h6,fun hj=>?_⟩;have C':a0<L.length:=(by omega);unfold dG;rw [fM E _ i rfl hi (.inl (by omega)),ha0,E.pk C',show(if pk L a0=94 then p+a0+1 else p+a0)=p+a1 by rw [← lP];split <;> rfl,g3 (by omega)];simp only;rw [k3 (by omega)];simp only;rw [fM E _ k rfl k2 (.inl hj)]
theorem yp {i:Nat} {d:Int} {j:Nat} (h:eJ L i=.ok (d,j)):i<j∧j≤L.length∧eJ L' (p+i)=.ok (d,p+j):=by
 unfold eJ at h ⊢;by_cases Hp:pk L i=62
 ·have hl:i<L.length:=bu (by omega);rw [if_pos Hp]at h;injection h with h;injection h with h3 h4;subst h3 h4;rw [E.pk hl,if_pos Hp];exact⟨by omega,hl,rfl⟩
 rw [if_neg Hp]at h;by_cases yg:pk L i=60∧pk L (i+1)=62
 ·have hl:i<L.length:=bu (by omega);have jd:i+1<L.length:=bu (by omega);rw [if_pos yg]at h;injection h with h;injection h with h3 h4;subst h3 h4;rw [E.pk hl,show p+i+1=p+(i+1) from rfl,E.pk jd,if_neg Hp,if_pos yg];exact⟨by omega,jd,rfl⟩
 rw [if_neg yg]at h;cases hn:aR L i 60 with
 | error e=>rw [hn]at h;cases h
 | ok k=>
  obtain⟨hk,e1⟩:=iY E hn (by decide);obtain⟨rfl,hp⟩:=fJ hn;have hl:i<L.length:=hk;rw [hn]at h;simp only at h;injection h with h;injection h with h3 h4;subst h3 h4;have c1:=E.is (k:=i+1) hk (r:=62) (by decide) (by decide) (by decide);rw [E.pk hl,if_neg Hp,show p+i+1=p+(i+1) from rfl,if_neg (fun x=>yg ⟨x.1,c1.1 x.2⟩),e1];exact⟨by omega,hk,rfl⟩
theorem J9 (hL:cn L) {i:Nat} {v:aF} {j:Nat} (hi:i≤L.length) (h:iO L i=.ok (v,j)):i≤j∧j≤L.length∧(j<L.length→iO L' (p+i)=.ok (v,p+j)):=by
 unfold iO at h;cases hs:dG L i with
 | error e=>rw [hs]at h;cases h
 | ok q=>
  obtain⟨l,a⟩:=q;obtain⟨g1,g2,g3⟩:=CT E hL hi hs;rw [hs]at h;simp only at h;cases ha:eJ L a with
  | error e=>rw [ha]at h;cases h
  | ok q=>
   obtain⟨d,k⟩:=q;obtain⟨k1,k2,k3⟩:=yp E ha;rw [ha]at h;simp only at h;cases wA:dG L k with
   | error e=>rw [wA]at h;cases h
   | ok q=>
    obtain⟨r,m⟩:=q;obtain⟨m1,m2,m3⟩:=CT E hL k2 wA;rw [wA]at h;simp only at h;have h7:=dm L i;have h8:=dm L k;by_cases hw:fG ⟨2,ey,[],d,l,r⟩≠0
    ·rw [if_pos hw]at h;cases h
    rw [if_neg hw]at h;injection h with h;injection h with h3 h4;subst h3 h4;refine⟨by omega,m2,fun hj=>?_⟩;unfold iO;rw [g3 (by omega)];simp only;rw [k3];simp only;rw [m3 hj];simp only;rw [if_neg hw]
theorem LM (hL:cn L) {i:Nat} {v:aF} {j:Nat} (h:iQ L i=.ok (v,j)):i≤j∧j≤L.length∧(j<L.length→iQ L' (p+i)=.ok (v,p+j)):=by
 unfold iQ at h;cases hn:aR L (i+1) 58 with
 | error e=>rw [hn]at h;cases h
 | ok a=>
  obtain⟨ha,e1⟩:=iY E hn (by decide);have h0:=(fJ hn).1;rw [hn]at h;simp only at h;have h5:=dm L a;have h6:=nE ha;by_cases j5:pk L (aB L a)=91
  ·have hl:aB L a<L.length:=bu (by omega);rw [if_pos j5]at h;cases hs:bE L 20 (aB L a)with
   | error e=>rw [hs]at h;cases h
   | ok q=>
    obtain⟨s,k⟩:=q;obtain⟨k0,k1,k2⟩:=zO E hL 20 _ _ _ hs;rw [hs]at h;simp only at h;injection h with h;injection h with h3 h4;subst h3 h4;refine⟨by omega,k1,fun hj=>?_⟩;unfold iQ;rw [show p+i+1=p+(i+1) from rfl,e1];simp only;rw [fM E _ a rfl ha (.inl hl),E.pk hl,if_pos j5,k2]
  rw [if_neg j5]at h;by_cases hb:jy (gJ L (aB L a))=true
  ·rw [if_pos hb]at h;injection h with h;injection h with h3 h4;subst h3 h4;have h7:=vJ L (aB L a);refine⟨by omega,jW h6,fun hj=>?_⟩;have hl:aB L a<L.length:=(by omega);unfold iQ;rw [show p+i+1=p+(i+1) from rfl,e1];simp only;rw [fM E _ a rfl ha (.inl hl),E.pk hl,if_neg j5,yB E h6,if_pos hb,i4 E h6]
  rw [if_neg hb]at h;cases h
theorem Ng (hL:cn L) {i:Nat} {v:aF} {j:Nat} (hi:i<L.length) (h:mY L i=.ok (v,j)):i≤j∧j≤L.length∧(j<L.length→mY L' (p+i)=.ok (v,p+j)):=by
 unfold mY at h;cases hn:gv L (i+1)with
 | error e=>rw [hn]at h;cases h
 | ok q=>
  obtain⟨s,a⟩:=q;obtain⟨ha,e1⟩:=CC E hi _ _ hn;have h0:=(j7 hn).1;rw [hn]at h;simp only at h;cases hq:aR L (aB L a) 61 with
  | error e=>rw [hq]at h;cases h
  | ok k=>
   obtain⟨hk,e2⟩:=iY E hq (by decide);have h1:=(fJ hq).1;have h2:=dm L a;rw [hq]at h;simp only at h;cases hs:bE L 20 (aB L k)with
   | error e=>rw [hs]at h;cases h
   | ok q=>
    obtain⟨t,m⟩:=q;obtain⟨k0,k1,k2⟩:=zO E hL 20 _ _ _ hs;have h4:=dm L k;rw [hs]at h;simp only at h;injection h with h;injection h with h3 h5;subst h3 h5;refine⟨by omega,k1,fun hj=>?_⟩;unfold mY;rw [show p+i+1=p+(i+1) from rfl,e1];simp only;rw [fM E _ a rfl ha (.inl (by omega)),e2];simp only;rw [fM E _ k rfl hk (.inl (by omega)),k2]
end
theorem Cn {L:List Int} (hL:cn L) {i:Nat} {v:bO} {j:Nat} (kD:pk L i=36) (h:dG L i=.ok (v,j)):j=i∨aB L (bf L (i+1))≤j:=by
 have E:G7 0 L L:=⟨fun k _=>by rw [Nat.zero_add],.inr (.inr (by rw [Nat.zero_add];exact pG (Nat.le_refl _)))⟩;have e0:aB L i=i:=H7 (by rw [kD];decide) (by rw [kD];decide);have hl:i<L.length:=bu (by omega);unfold dG at h;rw [e0,if_neg (by rw [kD];decide),show decide (pk L i=94)=false by rw [kD];decide]at h;unfold dI at h;cases hi:cA L i with
 | error e=>rw [hi]at h;cases h
 | ok q=>
  obtain⟨⟨l,c⟩,j1⟩:=q;have QV:=j9 E hL (Nat.le_of_lt hl) hi;have key:j1=i∨aB L (bf L (i+1))≤j1:=by
   unfold cA at hi;rw [cI,e0]at hi;unfold b7 at hi;rw [if_neg (by rw [kD];decide),if_neg (by rw [kD];decide)]at hi;by_cases hc:pk L i=36∧jN (pk L (i+1))=true
   ·rw [if_pos hc]at hi;cases hs:gv L (i+1)with
    | error e=>rw [hs]at hi;cases hi
    | ok q=>
     obtain⟨s,k⟩:=q;have hk:=(j7 hs).2.2.2;rw [hs]at hi;simp only at hi;split at hi
     ·cases hi
     have:=KP hL _ _ _ _ _ _ hi;rw [hk]at this;exact .inr this
   rw [if_neg hc,if_neg (by rw [kD];decide),if_neg (by rw [kD];decide)]at hi;simp only at hi;injection hi with hi;injection hi with h3 h4;exact .inl h4.symm
  rw [hi]at h;simp only at h;rcases key with rfl | key
  ·rw [if_neg (by rw [kD];decide),if_neg (by decide)]at h;simp only at h;unfold dZ at h;rw [if_neg (by rw [kD];decide)]at h;simp only at h;injection h with h;injection h with h3 h4;rw [e0]at h4;exact .inl h4.symm
  right;have up:∀ (r:jP (List aE × List aE × Int)),(match r with | .error e=>Except.error e | .ok ((b,s,c),j)=>match dZ L j with | .error e=>.error e | .ok ((a,fin),k)=>.ok ((⟨false,fin,b,s,a,c⟩:bO),aB L k))=.ok (v,j)→(∀ x k,r=.ok (x,k)→j1≤k∧k≤L.length)→j1≤j:=by
   intro r hr hk;cases r with
   | error e=>cases hr
   | ok q=>
    obtain⟨⟨b,s,c⟩,k⟩:=q;obtain⟨hk1,hk2⟩:=hk _ _ rfl;simp only at hr;cases ht:dZ L k with
    | error e=>rw [ht]at hr;cases hr
    | ok q=>
     obtain⟨⟨a,fin⟩,m⟩:=q;have hm:=(Cm E hL hk2 ht).1;rw [ht]at hr;simp only at hr;injection hr with hr;injection hr with h3 h4;have:=dm L m;omega
  refine Nat.le_trans key (up _ h ?_);intro x k hk;split at hk
  ·rename_i qO;have kB:j1<L.length:=bu (by omega);split at hk
   ·cases hk
   cases hi2:cA L (j1+1)with
   | error e=>rw [hi2]at hk;cases hk
   | ok q=>
    obtain⟨⟨l2,c2⟩,j2⟩:=q;have:=j9 E hL kB hi2;rw [hi2]at hk;simp only at hk;injection hk with hk;injection hk with h3 h4;omega
  rw [if_neg (by decide)]at hk;injection hk with hk;injection hk with h3 h4;omega
theorem yG {p:Nat} {L L':List Int} (E:G7 p L L') (hL:cn L) {i:Nat} {v:aF} {j:Nat} (hi:i≤L.length) (h:iL L i=.ok (v,j)):i≤j∧j≤L.length∧(j<L.length→iL L' (p+i)=.ok (v,p+j)):=by
 unfold iL at h;by_cases ux:pk L i=58
 ·rw [if_pos ux]at h;have hl:i<L.length:=bu (by omega);obtain⟨g1,g2,g3⟩:=LM E hL h;refine⟨g1,g2,fun hj=>?_⟩;unfold iL;rw [E.pk hl,if_pos ux];exact g3 hj
 rw [if_neg ux]at h;by_cases kD:pk L i=36∧pk L (aB L (bf L (i+1)))=61
 ·rw [if_pos kD]at h;have hl:i<L.length:=bu (by omega);have jd:aB L (bf L (i+1))<L.length:=bu (by omega);obtain⟨g1,g2,g3⟩:=Ng E hL hl h;refine⟨g1,g2,fun hj=>?_⟩;unfold iL;rw [E.pk hl,if_neg ux,show p+i+1=p+(i+1) from rfl,i4 E hl,fM E _ _ rfl (jW hl) (.inl jd),E.pk jd,if_pos kD];exact g3 hj
 rw [if_neg kD]at h;obtain⟨g1,g2,g3⟩:=J9 E hL hi h;refine⟨g1,g2,fun hj=>?_⟩;have hl:i<L.length:=(by omega);unfold iL;rw [E.pk hl,if_neg ux,if_neg];exact g3 hj;rintro⟨x1,x2⟩;rw [show p+i+1=p+(i+1) from rfl,i4 E hl]at x2;rcases Nat.lt_or_ge (aB L (bf L (i+1))) L.length with hs | hs
 ·rw [fM E _ _ rfl (jW hl) (.inl hs),E.pk hs]at x2;exact kD ⟨x1,x2⟩
 unfold iO at h;cases hsd:dG L i with
 | error e=>rw [hsd]at h;cases h
 | ok q=>
  obtain⟨l,a⟩:=q;rw [hsd]at h;simp only at h;cases ha:eJ L a with
  | error e=>rw [ha]at h;cases h
  | ok q=>
   obtain⟨d,k⟩:=q;have hk:=(yp E ha);rcases Cn hL x1 hsd with rfl | hge
   ·unfold eJ at ha;rw [if_neg (by omega),if_neg (fun x=>by have:=x.1;omega),yH (by omega)]at ha;cases ha
   omega
theorem J2 {L:List Int} (hL:cn L) {i:Nat} {v:aF} {j:Nat} (hi:i≤L.length) (h:iL L i=.ok (v,j)):i≤j∧j≤L.length:=by
 have E:G7 0 L L:=⟨fun k _=>by rw [Nat.zero_add],.inr (.inr (by rw [Nat.zero_add];exact pG (Nat.le_refl _)))⟩;exact⟨(yG E hL hi h).1,(yG E hL hi h).2.1⟩
theorem ox (A:Option Addr) (n c:Nat) (l:List aF) (w:World) (hn:n≤maxLen) (hl:Dt w w.heap.size A n l) :
    Calls Tryz.prog 75 #[.slice A n c] w fun e w'=>e=.returned (.agg #[.int .i64 (fm l).1,.int .i64 (fm l).2])∧Below w.heap.size w w':=by
 have aS:=qqh (jR.len hl);have HL:=qqh hl;have hn2:n≤9223372036854775807:=(by unfold maxLen at hn;omega);clear hl hn;by_cases h20:200<n
 ·have HP:=qqh (show fm l=(5,0) by unfold fm;rw [if_pos (by rw [aS.out];exact h20)]);go_enter Tryz.func75,Tryz.ntmps75;go_wp2_with fail;rw [HP.out];exact bodyPost_ret (v:=.agg #[.int .i64 5,.int .i64 0]) (by simp [results,Tryz.results75,go_sem]) rfl ⟨rfl,(Below.refl _ _).alloc (Nat.le_refl _) _⟩
 have HP:=qqh (show fm l=kV 0 l by unfold fm;rw [if_neg (by rw [aS.out];exact h20)]);go_enter Tryz.func75,Tryz.ntmps75;go_wp2_with fail;go_loopw [12] (TN w l n) (fun i _=>n - (intOf i).toNat);(case atStart=>exact⟨0,Nat.zero_le _,rfl,rfl,aj.new _ _ _,(Below.refl _ _).alloc (Nat.le_refl _) _⟩);obtain⟨k,hk,rfl,aY,hres,hb⟩:=hrel;have hz:=hb.size;have adu:=hres.lt;by_cases hlt:k<n
 ·obtain⟨p,hp⟩:∃ z,l[k]? = some z:=⟨_,List.getElem?_eq_getElem (by rw [aS.out];exact hlt)⟩;rw [dH hp,kV]at aY;obtain⟨b,off,A',n',c',L1,L2,L3,R1,R2,R3,a1,a2,a3,x1,x2,x3,b1,b2,b3,y1,y2,y3,rfl,dL,⟨f0,f1,f2,f3,f4,f5,f6,f7,f8,f9,f10,f11,f12,f13,f14,f15⟩,hs,hn',l1,l2,l3,yU,wE,yW,r1,r2,r3,Ad,wI,zR,cl,cr,hm⟩:=FH HL.out hp;have d0:=(hb.cell (p:=⟨b,off+k*16,none⟩) dL).trans f0;have d1:=(hb.cell (p:=⟨b,off+k*16+1,none⟩) dL).trans f1;have d2:=(hb.cell (p:=⟨b,off+k*16+2,none⟩) dL).trans f2;have d3:=(hb.cell (p:=⟨b,off+k*16+3,none⟩) dL).trans f3;have d4:=(hb.cell (p:=⟨b,off+k*16+4,none⟩) dL).trans f4;have d5:=(hb.cell (p:=⟨b,off+k*16+5,none⟩) dL).trans f5;have d6:=(hb.cell (p:=⟨b,off+k*16+6,none⟩) dL).trans f6;have d7:=(hb.cell (p:=⟨b,off+k*16+7,none⟩) dL).trans f7;have d8:=(hb.cell (p:=⟨b,off+k*16+8,none⟩) dL).trans f8;have d9:=(hb.cell (p:=⟨b,off+k*16+9,none⟩) dL).trans f9;have d10:=(hb.cell (p:=⟨b,off+k*16+10,none⟩) dL).trans f10;have d11:=(hb.cell (p:=⟨b,off+k*16+11,none⟩) dL).trans f11;have d12:=(hb.cell (p:=⟨b,off+k*16+12,none⟩) dL).trans f12;have d13:=(hb.cell (p:=⟨b,off+k*16+13,none⟩) dL).trans f13;have d14:=(hb.cell (p:=⟨b,off+k*16+14,none⟩) dL).trans f14;have d15:=(hb.cell (p:=⟨b,off+k*16+15,none⟩) dL).trans f15;have HI:=qqh (fun w' (hw:Below w.heap.size w w')=>qx p A' n' c' L1 L2 L3 R1 R2 R3 a1 a2 a3 x1 x2 x3 b1 b2 b3 y1 y2 y3 w' (Rd.more (Rd.below hs hw) hw.size) hn' (aM l1 hw) (aM l2 hw) (aM l3 hw) yU wE yW (aM r1 hw) (aM r2 hw) (aM r3 hw) Ad wI zR);clear f0 f1 f2 f3 f4 f5 f6 f7 f8 f9 f10 f11 f12 f13 f14 f15 hs hn' l1 l2 l3 yU wE yW r1 r2 r3 Ad wI zR cl cr hm
  have bR:=qqh (hb.alloc hz (.cells #[.int .i64 p.kind,.string p.name,.slice A' n' c',.int .i64 p.dir,.bool p.left.start,.bool p.left.fin,.slice L1 a1 x1,.slice L2 a2 x2,.slice L3 a3 x3,.int .i64 p.left.af,.bool p.right.start,.bool p.right.fin,.slice R1 b1 y1,.slice R2 b2 y2,.slice R3 b3 y3,.int .i64 p.right.af] 103));have Mk:=qqh (hres.alloc (.cells #[.int .i64 p.kind,.string p.name,.slice A' n' c',.int .i64 p.dir,.bool p.left.start,.bool p.left.fin,.slice L1 a1 x1,.slice L2 a2 x2,.slice L3 a3 x3,.int .i64 p.left.af,.bool p.right.start,.bool p.right.fin,.slice R1 b1 y1,.slice R2 b2 y2,.slice R3 b3 y3,.int .i64 p.right.af] 103));by_cases hi:fG p=0
  ·rw [if_pos hi]at aY;have HG:=qqh aY;clear aY hres;go_wp2_with fail;refine(HI.out _ bR.out).mono ?_;rintro e w2 ⟨rfl,aQ⟩;rw [hi];have hk2:=aj.below Mk.out aQ Mk.out.lt;have bJ:=bR.out.trans (aQ.mono bR.out.size);have XL:=qqh hk2;have bN:=qqh bJ;clear aQ bJ hk2;go_wp2_with fail;exact⟨⟨k+1,by omega,by go_num,HG.out,XL.out,bN.out⟩,by simp [intOf];omega⟩
  rw [if_neg hi]at aY;have hi2:(fG p != 0)=true:=(by simpa using hi);have HG:=qqh aY;clear aY hres hi;go_wp2_with fail;refine(HI.out _ bR.out).mono ?_;rintro e w2 ⟨rfl,aQ⟩;have hk2:=aj.below Mk.out aQ Mk.out.lt;have bJ:=bR.out.trans (aQ.mono bR.out.size);have q0:w2.cell? ⟨w.heap.size,0,none⟩=some (.int .i64 0):=hk2.cell 0;have q1:w2.cell? ⟨w.heap.size,1,none⟩=some (.int .i64 0):=hk2.cell 1;have q2:=hk2.frozen 0;have q3:=hk2.frozen 1;have bN:=qqh bJ;clear aQ bJ hk2;go_wp2_with fail;rw [HP.out,HG.out];exact bodyPost_ret (v:=.agg #[.int .i64 (fG p),.int .i64 k]) (by simp [results,Tryz.results75,go_sem,q0,q1]) rfl ⟨rfl,(bN.out.setCell (by simp) _).setCell (by simp) _⟩
 obtain rfl:k=n:=(by omega);rw [List.drop_of_length_le (by rw [aS.out];omega)]at aY;have HG:=qqh (aY.trans (show kV k [] =(0,0) from rfl));have q0:wr.cell? ⟨w.heap.size,0,none⟩=some (.int .i64 0):=hres.cell 0;have q1:wr.cell? ⟨w.heap.size,1,none⟩=some (.int .i64 0):=hres.cell 1;have q2:=hres.frozen 0;have q3:=hres.frozen 1;clear aY hres;go_wp2_with fail;rw [HP.out,HG.out];exact bodyPost_ret (v:=.agg #[.int .i64 0,.int .i64 0]) (by simp [results,Tryz.results75,go_sem,q0,q1]) rfl ⟨rfl,(hb.setCell (by simp) _).setCell (by simp) _⟩
end Go.Proofs.YtkggjgeihhialaaGreatDoor
