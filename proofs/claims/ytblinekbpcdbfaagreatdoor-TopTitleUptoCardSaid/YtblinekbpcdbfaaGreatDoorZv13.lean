/- PartWalk + PartAll + RulesP + RulesMono + RulesEmb + SpaceEq + RulesEmb2 + FileSyn -/
import Derived.Test.YtblinekbpcdbfaaGreatDoorZv11
import Derived.Deep.RegionWith
import Derived.Test.YtblinekbpcdbfaaGreatDoorZv9
import Derived.Test.YtblinekbpcdbfaaGreatDoorZv12
set_option maxHeartbeats 1600000
set_option maxRecDepth 100000
namespace Go.Proofs.YtblinekbpcdbfaaGreatDoor
open Go.RowKit
theorem DP {w:World} {g:Nat} {t:TypeId} {cs:Array Value} (h:aj w g t cs):aj w.drew g t cs:=h
theorem Li (name:ByteArray) (set:aa) (left right:bV) (dir:Int) (A:Option Addr) (n c:Nat) (L1 L2 L3 R1 R2 R3:Option Addr) (a1 a2 a3 x1 x2 x3 b1 b2 b3 y1 y2 y3:Nat) (w:World) (hs:kM w w.heap.size A n set) (hn:n≤9223372036854775807) :
    Calls Tryz.prog 60 #[.agg #[.int .i64 1,.string name,.slice A n c,.int .i64 dir,.bool left.start,.bool left.fin,.slice L1 a1 x1,.slice L2 a2 x2,.slice L3 a3 x3,.int .i64 left.af,.bool right.start,.bool right.fin,.slice R1 b1 y1,.slice R2 b2 y2,.slice R3 b3 y3,.int .i64 right.af]] w fun e w'=>e=.returned (.int .i64 (if ec name=true then bA set else 7))∧Below w.heap.size w w':=by
 have HB:=qqh ((Below.refl w.heap.size w).alloc qql (.cells #[.int .i64 1,.string name,.slice A n c,.int .i64 dir,.bool left.start,.bool left.fin,.slice L1 a1 x1,.slice L2 a2 x2,.slice L3 a3 x3,.int .i64 left.af,.bool right.start,.bool right.fin,.slice R1 b1 y1,.slice R2 b2 y2,.slice R3 b3 y3,.int .i64 right.af] 86));have HS:=qqh (sN hs (.cells #[.int .i64 1,.string name,.slice A n c,.int .i64 dir,.bool left.start,.bool left.fin,.slice L1 a1 x1,.slice L2 a2 x2,.slice L3 a3 x3,.int .i64 left.af,.bool right.start,.bool right.fin,.slice R1 b1 y1,.slice R2 b2 y2,.slice R3 b3 y3,.int .i64 right.af] 86));clear hs;cases hr:ec name
 ·go_enter Tryz.func60,Tryz.ntmps60;go_wp2_with (go_at_call 88;refine(ji _ _).mono ?_;rintro e w' ⟨rfl,rfl⟩;rw [hr]);go_ret;exact⟨rfl,HB.out⟩
 go_enter Tryz.func60,Tryz.ntmps60;go_wp2_with (go_at_call 88;refine(ji _ _).mono ?_;rintro e w' ⟨rfl,rfl⟩;rw [hr]);refine(iy A n c set _ hn HS.out).mono ?_;rintro e w' ⟨rfl,hb⟩;go_wp2_with fail;go_ret;exact⟨rfl,HB.out.trans (hb.mono (by simp))⟩
theorem Ec (name:ByteArray) (set:aa) (left right:bV) (dir:Int) (A:Option Addr) (n c:Nat) (L1 L2 L3 R1 R2 R3:Option Addr) (a1 a2 a3 x1 x2 x3 b1 b2 b3 y1 y2 y3:Nat) (w:World) (hs:kM w w.heap.size A n set) (hn:n≤9223372036854775807) :
    Calls Tryz.prog 60 #[.agg #[.int .i64 3,.string name,.slice A n c,.int .i64 dir,.bool left.start,.bool left.fin,.slice L1 a1 x1,.slice L2 a2 x2,.slice L3 a3 x3,.int .i64 left.af,.bool right.start,.bool right.fin,.slice R1 b1 y1,.slice R2 b2 y2,.slice R3 b3 y3,.int .i64 right.af]] w fun e w'=>e=.returned (.int .i64 (bA set))∧Below w.heap.size w w':=by
 have HB:=qqh ((Below.refl w.heap.size w).alloc qql (.cells #[.int .i64 3,.string name,.slice A n c,.int .i64 dir,.bool left.start,.bool left.fin,.slice L1 a1 x1,.slice L2 a2 x2,.slice L3 a3 x3,.int .i64 left.af,.bool right.start,.bool right.fin,.slice R1 b1 y1,.slice R2 b2 y2,.slice R3 b3 y3,.int .i64 right.af] 86));have HS:=qqh (sN hs (.cells #[.int .i64 3,.string name,.slice A n c,.int .i64 dir,.bool left.start,.bool left.fin,.slice L1 a1 x1,.slice L2 a2 x2,.slice L3 a3 x3,.int .i64 left.af,.bool right.start,.bool right.fin,.slice R1 b1 y1,.slice R2 b2 y2,.slice R3 b3 y3,.int .i64 right.af] 86));clear hs;go_enter Tryz.func60,Tryz.ntmps60;go_wp2_with fail;refine(iy A n c set _ hn HS.out).mono ?_;rintro e w' ⟨rfl,hb⟩;go_wp2_with fail;go_ret;exact⟨rfl,HB.out.trans (hb.mono (by simp))⟩
theorem Fa (name:ByteArray) (left right:bV) (kind dir:Int) (A:Option Addr) (n c:Nat) (L1 L2 L3 R1 R2 R3:Option Addr) (a1 a2 a3 x1 x2 x3 b1 b2 b3 y1 y2 y3:Nat) (w:World) (k1:kind≠1) (k2:kind≠2) (k3:kind≠3) (k4:kind≠4) :
    Calls Tryz.prog 60 #[.agg #[.int .i64 kind,.string name,.slice A n c,.int .i64 dir,.bool left.start,.bool left.fin,.slice L1 a1 x1,.slice L2 a2 x2,.slice L3 a3 x3,.int .i64 left.af,.bool right.start,.bool right.fin,.slice R1 b1 y1,.slice R2 b2 y2,.slice R3 b3 y3,.int .i64 right.af]] w fun e w'=>e=.returned (.int .i64 (1))∧Below w.heap.size w w':=by
 have HB:=qqh ((Below.refl w.heap.size w).alloc qql (.cells #[.int .i64 kind,.string name,.slice A n c,.int .i64 dir,.bool left.start,.bool left.fin,.slice L1 a1 x1,.slice L2 a2 x2,.slice L3 a3 x3,.int .i64 left.af,.bool right.start,.bool right.fin,.slice R1 b1 y1,.slice R2 b2 y2,.slice R3 b3 y3,.int .i64 right.af] 86));have e1:(kind == 1)=false:=(by simpa using k1);have e2:(kind == 2)=false:=(by simpa using k2);have e3:(kind == 3)=false:=(by simpa using k3);have e4:(kind == 4)=false:=(by simpa using k4);clear k1 k2 k3 k4;go_enter Tryz.func60,Tryz.ntmps60;go_wp2_with fail;go_ret;exact⟨rfl,HB.out⟩
theorem J7 (name:ByteArray) (left right:bV) (dir:Int) (A:Option Addr) (n c:Nat) (L1 L2 L3 R1 R2 R3:Option Addr) (a1 a2 a3 x1 x2 x3 b1 b2 b3 y1 y2 y3:Nat) (w:World)  :
    Calls Tryz.prog 60 #[.agg #[.int .i64 4,.string name,.slice A n c,.int .i64 dir,.bool left.start,.bool left.fin,.slice L1 a1 x1,.slice L2 a2 x2,.slice L3 a3 x3,.int .i64 left.af,.bool right.start,.bool right.fin,.slice R1 b1 y1,.slice R2 b2 y2,.slice R3 b3 y3,.int .i64 right.af]] w fun e w'=>e=.returned (.int .i64 (if jR name=true then 0 else 7))∧Below w.heap.size w w':=by
 have HB:=qqh ((Below.refl w.heap.size w).alloc qql (.cells #[.int .i64 4,.string name,.slice A n c,.int .i64 dir,.bool left.start,.bool left.fin,.slice L1 a1 x1,.slice L2 a2 x2,.slice L3 a3 x3,.int .i64 left.af,.bool right.start,.bool right.fin,.slice R1 b1 y1,.slice R2 b2 y2,.slice R3 b3 y3,.int .i64 right.af] 86));have c1:(w.alloc (.cells #[.int .i64 4,.string name,.slice A n c,.int .i64 dir,.bool left.start,.bool left.fin,.slice L1 a1 x1,.slice L2 a2 x2,.slice L3 a3 x3,.int .i64 left.af,.bool right.start,.bool right.fin,.slice R1 b1 y1,.slice R2 b2 y2,.slice R3 b3 y3,.int .i64 right.af] 86)).cell? ⟨w.heap.size,1,none⟩=some (.string name):=(aj.new _ _ _).cell 1;have hlt:w.heap.size<(w.alloc (.cells #[.int .i64 4,.string name,.slice A n c,.int .i64 dir,.bool left.start,.bool left.fin,.slice L1 a1 x1,.slice L2 a2 x2,.slice L3 a3 x3,.int .i64 left.af,.bool right.start,.bool right.fin,.slice R1 b1 y1,.slice R2 b2 y2,.slice R3 b3 y3,.int .i64 right.af] 86)).heap.size:=(by simp);cases hr:jR name
 all_goals
   have HR:=qqh hr
   clear hr
   go_enter Tryz.func60,Tryz.ntmps60
   go_wp2_with fail
   generalize w.alloc (.cells #[.int .i64 4,.string name,.slice A n c,.int .i64 dir,.bool left.start,.bool left.fin,.slice L1 a1 x1,.slice L2 a2 x2,.slice L3 a3 x3,.int .i64 left.af,.bool right.start,.bool right.fin,.slice R1 b1 y1,.slice R2 b2 y2,.slice R3 b3 y3,.int .i64 right.af] 86)=W0 at *
   go_region_with (first | (go_at_call 55;refine(iK _).mono ?_;rintro e w' ⟨rfl,rfl⟩) | (go_at_call 54;refine(rD _ name _ HR.out _ (DP (aj.new _ _ _))).mono ?_;rintro e w' ⟨rfl,rfl⟩))
   all_goals
     go_wp2_with fail
     go_ret
     exact⟨rfl,below_drewN (HB.out.alloc HB.out.size _) _⟩
theorem qV (p:aG) (A:Option Addr) (n c:Nat) (L1 L2 L3 R1 R2 R3:Option Addr) (a1 a2 a3 x1 x2 x3 b1 b2 b3 y1 y2 y3:Nat) (w:World) (hs:kM w w.heap.size A n p.set) (hn:n≤maxLen) (l1:bO w w.heap.size L1 a1 p.left.before) (l2:bO w w.heap.size L2 a2 p.left.source) (l3:bO w w.heap.size L3 a3 p.left.after) (Bm:a1≤maxLen) (xS:a2≤maxLen) (Bq:a3≤maxLen) (r1:bO w w.heap.size R1 b1 p.right.before) (r2:bO w w.heap.size R2 b2 p.right.source) (r3:bO w w.heap.size R3 b3 p.right.after) (Bp:b1≤maxLen) (x7:b2≤maxLen) (AA:b3≤maxLen)  :
    Calls Tryz.prog 60 #[.agg #[.int .i64 p.kind,.string p.name,.slice A n c,.int .i64 p.dir,.bool p.left.start,.bool p.left.fin,.slice L1 a1 x1,.slice L2 a2 x2,.slice L3 a3 x3,.int .i64 p.left.af,.bool p.right.start,.bool p.right.fin,.slice R1 b1 y1,.slice R2 b2 y2,.slice R3 b3 y3,.int .i64 p.right.af]] w fun e w'=>e=.returned (.int .i64 (gM p))∧Below w.heap.size w w':=by
 obtain⟨kind,name,set,dir,left,right⟩:=p;dsimp only at *;unfold gM;dsimp only;by_cases k1:kind=1
 ·subst k1;rw [if_pos rfl];exact Li name set left right dir A n c L1 L2 L3 R1 R2 R3 a1 a2 a3 x1 x2 x3 b1 b2 b3 y1 y2 y3 w hs (by unfold maxLen at hn;omega)
 by_cases k3:kind=3
 ·subst k3;rw [if_neg k1,if_pos rfl];exact Ec name set left right dir A n c L1 L2 L3 R1 R2 R3 a1 a2 a3 x1 x2 x3 b1 b2 b3 y1 y2 y3 w hs (by unfold maxLen at hn;omega)
 by_cases k4:kind=4
 ·subst k4;rw [if_neg k1,if_neg k3,if_pos rfl];exact J7 name left right dir A n c L1 L2 L3 R1 R2 R3 a1 a2 a3 x1 x2 x3 b1 b2 b3 y1 y2 y3 w
 by_cases k2:kind=2
 ·subst k2;rw [if_neg k1,if_neg k3,if_neg k4,if_pos rfl];by_cases hd:dir<1∨3<dir
  ·have e:cK dir left right=1:=if_pos hd;rw [e];exact Mi name left right dir A n c L1 L2 L3 R1 R2 R3 a1 a2 a3 x1 x2 x3 b1 b2 b3 y1 y2 y3 w hd
  rcases (show dir=1∨dir=2∨dir=3 by omega)with rfl | rfl | rfl;exact E5 name left right A n c L1 L2 L3 R1 R2 R3 a1 a2 a3 x1 x2 x3 b1 b2 b3 y1 y2 y3 w l1 l2 l3 Bm xS Bq r1 r2 r3 Bp x7 AA;exact FA name left right A n c L1 L2 L3 R1 R2 R3 a1 a2 a3 x1 x2 x3 b1 b2 b3 y1 y2 y3 w l1 l2 l3 Bm xS Bq r1 r2 r3 Bp x7 AA;exact Ew name left right A n c L1 L2 L3 R1 R2 R3 a1 a2 a3 x1 x2 x3 b1 b2 b3 y1 y2 y3 w l1 l2 l3 Bm xS Bq r1 r2 r3 Bp x7 AA
 rw [if_neg k1,if_neg k3,if_neg k4,if_neg k2];exact Fa name left right kind dir A n c L1 L2 L3 R1 R2 R3 a1 a2 a3 x1 x2 x3 b1 b2 b3 y1 y2 y3 w k1 k2 k3 k4
def qv (r:Int):Bool:=decide (0≤r) && !decide (r=10)
def eO (L:List Int):Nat→Nat→Nat
  | 0,i=>aN L i
  | f+1,i=>if pk L (aN L i)=35 then eO L f (az qv L (aN L i))else aN L i
def ax (L:List Int) (i:Nat):Nat:=eO L (L.length+1) i
def j7 (r:Int):Bool:=(decide (97≤r) && decide (r≤122)) || decide (r=95)
def zY (r:Int):Bool:=decide (48≤r) && decide (r≤57)
def aV (L:List Int) (i:Nat):Nat:=if j7 (pk L i)=true then az (fun r=>j7 r || zY r) L i else i
def gW (L:List Int) (i:Nat):ByteArray:=runesBytes (aM L i (aV L i))
def gh (L:List Int) (i:Nat):jY ByteArray:=if ec (gW L i)=true then .ok (gW L i,aV L i)else .error (7,i)
def ld (r:Int):Bool:=decide (0≤r) && !decide (r=39)
def eD:ByteArray:=⟨#[]⟩
def mc (x:Int):aF:=⟨1,x,[],eD⟩
def fV (L:List Int) (i:Nat):jY (List aF) :=
  if pk L (az ld L (i+1))=39 then .ok ((aM L (i+1) (az ld L (i+1))).map mc,az ld L (i+1)+1)else .error (2,az ld L (i+1))
def bZ (L:List Int) (a:Nat) (out:List aF) (cur:Int):Except (Int × Nat) (Option ((List aF × Int) × Nat)) :=
  if pk L a=124 then (if 0≤cur then .error (5,a)else .ok (some ((out,(out.length:Int)),a+1)))
  else if pk L a=91 then match bw L 20 a with | .error e=>.error e | .ok (s,j)=>.ok (some ((out++[⟨2,0,s,eD⟩],cur),j))
  else if pk L a=36∧j7 (pk L (a+1))=true then match gh L (a+1)with | .error e=>.error e | .ok (s,j)=>.ok (some ((out++[⟨3,0,[],s⟩],cur),j))
  else if pk L a=39 then match fV L a with | .error e=>.error e | .ok (l,j)=>.ok (some ((out++l,cur),j))
  else if pk L a=92∨cQ (pk L a)=true then match cL L a with | .error e=>.error e | .ok (x,j)=>if bE x=true then .ok (some ((out++[mc x],cur),j))else .error (3,a)
  else .ok none
def cB (L:List Int):Nat→Nat→List aF→Int→jY (List aF × Int)
  | 0,i,_,_=>.error (2,i)
  | f+1,i,out,cur=>match bZ L (ax L i) out cur with
    | .error e=>.error e
    | .ok none=>.ok ((out,cur),ax L i)
    | .ok (some ((o,c),j))=>if 20<o.length then .error (5,ax L i)else cB L f j o c
def cy (L:List Int) (i:Nat):jY (List aF × Int):=cB L (L.length+1) i [] (-1)
def dD (L:List Int) (start:Bool) (a:Nat):jY (List aF × List aF × Int) :=
  match cy L a with
  | .error e=>.error e
  | .ok ((l,c),j)=>
    if pk L j=123 then (if 0≤c then .error (8,a)else match cy L (j+1)with | .error e=>.error e | .ok ((l2,c2),j2)=>.ok ((l,l2,c2),j2))
    else if start=true then .error (2,j)else .ok (([],l,c),j)
def ef (L:List Int) (j:Nat):jY (List aF × Bool) :=
  if pk L j=125 then match cy L (j+1)with
    | .error e=>.error e
    | .ok ((l,c),k)=>if 0≤c then .error (8,j+1)else if pk L k=36 then .ok ((l,true),k+1)else .ok ((l,false),k)
  else .ok (([],false),j)
def dw (L:List Int) (i:Nat):jY bV :=
  match dD L (decide (pk L (ax L i)=94)) (if pk L (ax L i)=94 then ax L i+1 else ax L i)with
  | .error e=>.error e
  | .ok ((b,s,c),j)=>match ef L j with
    | .error e=>.error e
    | .ok ((a,fin),k)=>.ok (⟨decide (pk L (ax L i)=94),fin,b,s,a,c⟩,ax L k)
def eJ (L:List Int) (i:Nat):jY Int :=
  if pk L i=62 then .ok (1,i+1)else if pk L i=60∧pk L (i+1)=62 then .ok (3,i+2)
  else match aQ L i 60 with | .error e=>.error e | .ok j=>.ok (2,j)
def dz:bV:=⟨false,false,[],[],[],0⟩
def jv (L:List Int) (i:Nat):jY aG :=
  match dw L i with
  | .error e=>.error e
  | .ok (l,j)=>match eJ L j with
    | .error e=>.error e
    | .ok (d,k)=>match dw L k with
      | .error e=>.error e
      | .ok (r,m)=>if gM ⟨2,eD,[],d,l,r⟩≠0 then .error (gM ⟨2,eD,[],d,l,r⟩,i)else .ok (⟨2,eD,[],d,l,r⟩,m)
def jA (L:List Int) (i:Nat):jY aG :=
  match aQ L (i+1) 58 with
  | .error e=>.error e
  | .ok j=>
    if pk L (ax L j)=91 then match bw L 20 (ax L j)with | .error e=>.error e | .ok (s,k)=>.ok (⟨3,eD,s,0,dz,dz⟩,k)
    else if jR (gW L (ax L j))=true then .ok (⟨4,gW L (ax L j),[],0,dz,dz⟩,aV L (ax L j))else .error (7,ax L j)
def oZ (L:List Int) (i:Nat):jY aG :=
  match gh L (i+1)with
  | .error e=>.error e
  | .ok (s,j)=>match aQ L (ax L j) 61 with
    | .error e=>.error e
    | .ok k=>match bw L 20 (ax L k)with | .error e=>.error e | .ok (t,m)=>.ok (⟨1,s,t,0,dz,dz⟩,m)
def jQ (L:List Int) (i:Nat):jY aG :=
  if pk L i=58 then jA L i
  else if pk L i=36∧pk L (ax L (aV L (i+1)))=61 then oZ L i
  else jv L i
def iA (L:List Int):Nat→Nat→List aG→Except (Int × Nat) (List aG)
  | 0,i,_=>.error (2,i)
  | f+1,i,l=>
    if pk L (ax L i)<0 then .ok l
    else if l.length=200 then .error (5,ax L i)
    else match jQ L (ax L i)with
      | .error e=>.error e
      | .ok (p,j)=>match aQ L (ax L j) 59 with
        | .error e=>.error e
        | .ok k=>iA L f k (l++[p])
def jJ (L:List Int):List aG × (Int × Int) :=
  if 16000<L.length then ([],(4,0))
  else match iA L (L.length+1) 0 []with
    | .error (e,p)=>([],(e,(p:Int)))
    | .ok l=>(l,(0,0))
theorem I3 (L:List Int):∀ f i,i≤eO L f i:=by
 intro f;induction f with
 | zero=>exact fun i=>ee L i
 | succ f ih=>
  intro i;rw [eO];split;exact Nat.le_trans (ee L i) (Nat.le_trans (eK _ _ _) (ih _));exact ee L i
theorem qG {L:List Int} {i:Nat} (h:i≤L.length):aN L i≤L.length:=(iq h).2
theorem IQ (L:List Int):∀ f i,i≤L.length→eO L f i≤L.length:=by
 intro f;induction f with
 | zero=>exact fun i h=>qG h
 | succ f ih=>
  intro i h;rw [eO];split;exact ih _ (iq (qG h)).2;exact qG h
theorem de (L:List Int) (i:Nat):i≤ax L i:=I3 L _ i
theorem oG {L:List Int} {i:Nat} (h:i≤L.length):ax L i≤L.length:=IQ L _ i h
theorem vS (L:List Int) (i:Nat):i≤aV L i:=by
 unfold aV;split;exact eK _ _ _;exact qql
theorem kH {L:List Int} {i:Nat} (h:i≤L.length):aV L i≤L.length:=by
 unfold aV;split;exact(iq h).2;exact h
theorem mE {L:List Int} {i j:Nat} {s:ByteArray} (h:gh L i=.ok (s,j)):i<j∧ec s=true∧s=gW L i∧j=aV L i:=by
 unfold gh at h;split at h
 ·rename_i hn;injection h with h;injection h with h1 h2;subst h1 h2;refine⟨?_,hn,rfl,rfl⟩;rcases Nat.lt_or_ge i (aV L i)with hl | hl;exact hl;have he:aV L i=i:=Nat.le_antisymm hl (vS L i);have ht:gW L i=runesBytes []:=by
   unfold gW aM;rw [he,Nat.sub_self];rfl
  rw [ht]at hn;exact absurd hn (by unfold ec;simp [show(runesBytes []).size=0 from rfl])
 cases h
theorem wT {L:List Int} {i j:Nat} {l:List aF} (h:fV L i=.ok (l,j)):i+1<j∧j≤L.length:=by
 unfold fV at h;split at h
 ·rename_i hn;injection h with h;injection h with h1 h2;have hlt:=bl (L:=L) (i:=az ld L (i+1)) (by omega);have:=eK ld L (i+1);omega
 cases h
theorem wD {L:List Int} (hL:cR L) {a j:Nat} {out o:List aF} {cur c:Int} (h:bZ L a out cur=.ok (some ((o,c),j))):a<j∧out.length≤o.length:=by
 unfold bZ at h;split at h
 ·split at h
  ·cases h
  injection h with h;injection h with h;injection h with h1 h2;injection h1 with h1 h3;subst h1 h2;exact⟨by omega,qql⟩
 split at h
 ·split at h
  ·cases h
  rename_i s j' hs;injection h with h;injection h with h;injection h with h1 h2;injection h1 with h1 h3;subst h1 h2;exact⟨(ov hL 20 _ _ _ hs).1,by simp⟩
 split at h
 ·split at h
  ·cases h
  rename_i s j' hs;injection h with h;injection h with h;injection h with h1 h2;injection h1 with h1 h3;subst h1 h2;have:=(mE hs).1;exact⟨by omega,by simp⟩
 split at h
 ·split at h
  ·cases h
  rename_i s j' hs;injection h with h;injection h with h;injection h with h1 h2;injection h1 with h1 h3;subst h1 h2;have:=(wT hs).1;exact⟨by omega,by simp⟩
 split at h
 ·split at h
  ·cases h
  rename_i x j' hs;split at h
  ·injection h with h;injection h with h;injection h with h1 h2;injection h1 with h1 h3;subst h1 h2;exact⟨(nZ hL hs).1,by simp⟩
  cases h
 injection h with h;cases h
structure Ju (p:Nat) (L L':List Int):Prop where
  here:∀ k,k<L.length→L'[p+k]? = L[k]?
  stop:pk L' (p+L.length)=10∨pk L' (p+L.length)=32∨pk L' (p+L.length) = -1
def JL {α:Type} (p:Nat) (L:List Int) (r r':jY α):Prop:=∀ v j,r=.ok (v,j)→j≤L.length∧r'=.ok (v,p+j)
section
variable {p : Nat} {L L' : List Int} (E : Ju p L L')
include E
theorem Ju.pk {k:Nat} (hk:k<L.length):pk L' (p+k)=pk L k:=by
 unfold Go.Proofs.YtblinekbpcdbfaaGreatDoor.pk;rw [E.here k hk]
theorem Ju.is {k:Nat} (hk:k≤L.length) {r:Int} (h1:r≠10) (h2:r ≠ -1) (h3:r≠32):Go.Proofs.YtblinekbpcdbfaaGreatDoor.pk L' (p+k)=r↔Go.Proofs.YtblinekbpcdbfaaGreatDoor.pk L k=r:=by
 rcases Nat.lt_or_ge k L.length with hl | hl
 ·rw [E.pk hl]
 have hk:k=L.length:=(by omega);subst hk;rw [pV qql];rcases E.stop with e | e | e <;> rw [e] <;> constructor <;> intro h' <;> omega
theorem Ju.lt {k:Nat} (hk:k<L.length):p+k<L'.length:=by
 have:=E.here k hk;rw [List.getElem?_eq_getElem hk]at this;exact(List.getElem?_eq_some_iff.1 this).1
theorem Ju.len:L.length≤L'.length:=by
 rcases Nat.eq_zero_or_pos L.length with h | h;omega;have:=E.lt (k:=L.length - 1) (by omega);omega
theorem Ju.run {q:Int→Bool}:∀ (d i:Nat),L.length - i=d→i≤L.length→(az q L i<L.length∨q (Go.Proofs.YtblinekbpcdbfaaGreatDoor.pk L' (p+L.length))=false)→az q L' (p+i)=p+az q L i:=by
 intro d;induction d with
 | zero=>
  intro i hd hi hq;have e:i=L.length:=(by omega);subst e;have e2:az q L L.length=L.length:=cF (fun h=>absurd h (Nat.lt_irrefl _));rw [e2]at hq ⊢;rcases hq with hq | hq;omega;exact cF (fun _=>hq)
 | succ d ih=>
  intro i hd hi hq;have hl:i<L.length:=(by omega);cases hv:q (Go.Proofs.YtblinekbpcdbfaaGreatDoor.pk L i)with
  | true=>
   rw [dL hl hv]at hq ⊢;rw [dL (E.lt hl) (by rw [E.pk hl];exact hv),Nat.add_assoc];exact ih (i+1) (by omega) (by omega) hq
  | false=>rw [cF (fun _=>hv),cF (fun _=>by rw [E.pk hl];exact hv)]
theorem Ju.S9 {q:Int→Bool} (h1:q 10=false) (h2:q 32=false) (h3:q (-1)=false) {i:Nat} (hi:i≤L.length):az q L' (p+i)=p+az q L i:=by
 refine E.run _ i rfl hi (.inr ?_);rcases E.stop with e | e | e <;> rw [e] <;> assumption
theorem Ju.skip {i:Nat} (hi:i≤L.length) (h:aN L i<L.length):aN L' (p+i)=p+aN L i:=E.run _ i rfl hi (.inl h)
theorem Ju.text {i j:Nat} (hj:j≤L.length):aM L' (p+i) (p+j)=aM L i j:=by
 unfold aM;rw [show p+j - (p+i)=j - i by omega];apply List.ext_getElem?;intro k;rcases Nat.lt_or_ge k (j - i)with hk | hk
 ·rw [List.getElem?_take_of_lt hk,List.getElem?_take_of_lt hk,List.getElem?_drop,List.getElem?_drop,Nat.add_assoc];exact E.here _ (by omega)
 rw [List.getElem?_take_eq_none hk,List.getElem?_take_eq_none hk]
theorem jt {i j:Nat} {r:Int} (h:aQ L i r=.ok j) (hr:r ≠ -1):j≤L.length∧aQ L' (p+i) r=.ok (p+j):=by
 obtain⟨rfl,hp⟩:=fH h;have hl:i<L.length:=bl (by rw [hp];exact hr);refine⟨hl,?_⟩;rw [MZ (by rw [E.pk hl];exact hp)];rfl
theorem O8 (i:Nat):JL p L (kU L i) (kU L' (p+i)):=by
 intro v j h;unfold kU at h ⊢;cases h1:aQ L (i+1) 123 with
 | error e=>rw [h1]at h;cases h
 | ok a=>
  obtain⟨ha,e1⟩:=jt E h1 (by decide);rw [h1]at h;rw [show p+i+1=p+(i+1) from rfl,e1];simp only at h ⊢;rw [E.S9 rfl rfl rfl ha,show p+az eV L a - (p+a)=az eV L a - a by omega];by_cases hn:az eV L a - a<1∨6<az eV L a - a
  ·rw [if_pos hn]at h;cases h
  rw [if_neg hn]at h ⊢;cases h2:aQ L (az eV L a) 125 with
  | error e=>rw [h2]at h;cases h
  | ok b=>
   obtain⟨hb,e2⟩:=jt E h2 (by decide);rw [h2]at h;rw [e2];simp only at h ⊢;rw [E.text (iq ha).2];by_cases hm:1114111<dY (aM L a (az eV L a))
   ·rw [if_pos hm]at h;cases h
   rw [if_neg hm]at h ⊢;injection h with h;injection h with h3 h4;subst h3 h4;exact⟨hb,rfl⟩
theorem vL (i:Nat):JL p L (cL L i) (cL L' (p+i)):=by
 intro v j h;unfold cL at h ⊢;by_cases hp:cQ (Go.Proofs.YtblinekbpcdbfaaGreatDoor.pk L i)=true
 ·have hl:i<L.length:=bl (fun e=>by rw [e]at hp;exact absurd hp (by decide));rw [if_pos hp]at h;rw [E.pk hl,if_pos hp];injection h with h;injection h with h3 h4;subst h3 h4;exact⟨hl,rfl⟩
 rw [if_neg hp]at h;by_cases xQ:Go.Proofs.YtblinekbpcdbfaaGreatDoor.pk L i≠92
 ·rw [if_pos xQ]at h;cases h
 rw [if_neg xQ]at h;have hl:i<L.length:=bl (by omega);rw [E.pk hl,if_neg hp,if_neg xQ];have mJ:i+1<L.length:=bl (fun e=>by rw [e]at h;simp at h);rw [show p+i+1=p+(i+1) from rfl,E.pk mJ];by_cases c1:Go.Proofs.YtblinekbpcdbfaaGreatDoor.pk L (i+1)=110
 ·rw [if_pos c1]at h ⊢;injection h with h;injection h with h3 h4;subst h3 h4;exact⟨mJ,rfl⟩
 rw [if_neg c1]at h ⊢;by_cases c2:Go.Proofs.YtblinekbpcdbfaaGreatDoor.pk L (i+1)=116
 ·rw [if_pos c2]at h ⊢;injection h with h;injection h with h3 h4;subst h3 h4;exact⟨mJ,rfl⟩
 rw [if_neg c2]at h ⊢;by_cases c3:Go.Proofs.YtblinekbpcdbfaaGreatDoor.pk L (i+1)=117
 ·rw [if_pos c3]at h ⊢;exact O8 E _ _ _ h
 rw [if_neg c3]at h ⊢;by_cases c4:Go.Proofs.YtblinekbpcdbfaaGreatDoor.pk L (i+1)<0∨Gt (Go.Proofs.YtblinekbpcdbfaaGreatDoor.pk L (i+1))=true
 ·rw [if_pos c4]at h;cases h
 rw [if_neg c4]at h ⊢;injection h with h;injection h with h3 h4;subst h3 h4;exact⟨mJ,rfl⟩
theorem MI (i:Nat):JL p L (js L i) (js L' (p+i)):=by
 intro v j h;unfold js at h ⊢;cases h1:cL L i with
 | error e=>rw [h1]at h;cases h
 | ok q=>
  obtain⟨low,a⟩:=q;obtain⟨ha,e1⟩:=vL E _ _ _ h1;rw [h1]at h;rw [e1];simp only at h ⊢;have c1:(Go.Proofs.YtblinekbpcdbfaaGreatDoor.pk L' (p+a)=45∧Go.Proofs.YtblinekbpcdbfaaGreatDoor.pk L' (p+a+1)≠91)↔(Go.Proofs.YtblinekbpcdbfaaGreatDoor.pk L a=45∧Go.Proofs.YtblinekbpcdbfaaGreatDoor.pk L (a+1)≠91):=by
   rw [E.is ha (by decide) (by decide) (by decide)];refine and_congr_right (fun TD=>?_);have hl:a<L.length:=bl (by omega);exact not_congr (E.is (k:=a+1) hl (by decide) (by decide) (by decide))
  by_cases hc:Go.Proofs.YtblinekbpcdbfaaGreatDoor.pk L a=45∧Go.Proofs.YtblinekbpcdbfaaGreatDoor.pk L (a+1)≠91
  ·rw [if_pos hc]at h;rw [if_pos (c1.2 hc)];cases h2:cL L (a+1)with
   | error e=>rw [h2]at h;cases h
   | ok q=>
    obtain⟨high,b⟩:=q;obtain⟨hb,e2⟩:=vL E _ _ _ h2;rw [h2]at h;rw [show p+a+1=p+(a+1) from rfl,e2];simp only at h ⊢;by_cases hh:high<low
    ·rw [if_pos hh]at h;cases h
    rw [if_neg hh]at h ⊢;injection h with h;injection h with h3 h4;subst h3 h4;exact⟨hb,rfl⟩
  rw [if_neg hc]at h;rw [if_neg (fun x=>hc (c1.1 x))];injection h with h;injection h with h3 h4;subst h3 h4;exact⟨ha,rfl⟩
theorem JO {i:Nat} (hi:i+2≤L.length):JL p L (eN L i) (eN L' (p+i)):=by
 intro v j h;unfold eN at h ⊢;rw [show p+i+2=p+(i+2) from rfl,E.S9 rfl rfl rfl hi,E.text (iq hi).2];cases h0:gE (aM L (i+2) (az cQ L (i+2)))with
 | none=>rw [h0]at h;cases h
 | some s=>
  rw [h0]at h;simp only at h ⊢;cases h1:aQ L (az cQ L (i+2)) 58 with
  | error e=>rw [h1]at h;cases h
  | ok a=>
   obtain⟨ha,e1⟩:=jt E h1 (by decide);rw [h1]at h;rw [e1];simp only at h ⊢;cases h2:aQ L a 93 with
   | error e=>rw [h2]at h;cases h
   | ok b=>
    obtain⟨hb,e2⟩:=jt E h2 (by decide);rw [h2]at h;rw [e2];simp only at h ⊢;injection h with h;injection h with h3 h4;subst h3 h4;exact⟨hb,rfl⟩
def Sb (p:Nat) (L:List Int) (inner inner':Nat→jY aa):Prop:=∀ i s j,inner i=.ok (s,j)→i<j∧j≤L.length∧inner' (p+i)=.ok (s,p+j)
theorem K8 {inner inner':Nat→jY aa} (hI:Sb p L inner inner') (i:Nat) (s:aa) (j:Nat) (h:dc inner L i=.ok (s,j)):i<L.length∧j≤L.length∧dc inner' L' (p+i)=.ok (s,p+j):=by
 have hl:i<L.length:=by
  refine bl (fun e=>?_);unfold dc at h;rw [if_neg (fun x=>by have:=x.1;omega),if_neg (by omega),if_neg (by omega)]at h;unfold js cL at h;rw [e]at h;simp [cQ]at h
 refine⟨hl,?_⟩;unfold dc at h ⊢;rw [E.pk hl,show p+i+1=p+(i+1) from rfl];have c1:=E.is (k:=i+1) hl (r:=58) (by decide) (by decide) (by decide);by_cases hc:Go.Proofs.YtblinekbpcdbfaaGreatDoor.pk L i=91∧Go.Proofs.YtblinekbpcdbfaaGreatDoor.pk L (i+1)=58
 ·rw [if_pos hc]at h;rw [if_pos ⟨hc.1,c1.2 hc.2⟩];have mJ:i+1<L.length:=bl (by omega);exact JO E mJ _ _ h
 rw [if_neg hc]at h;rw [if_neg (fun x=>hc ⟨x.1,c1.1 x.2⟩)];by_cases kX:Go.Proofs.YtblinekbpcdbfaaGreatDoor.pk L i=91
 ·rw [if_pos kX]at h ⊢;exact(hI _ _ _ h).2
 rw [if_neg kX]at h ⊢;by_cases Q5:Go.Proofs.YtblinekbpcdbfaaGreatDoor.pk L i=38∨Go.Proofs.YtblinekbpcdbfaaGreatDoor.pk L i=45
 ·rw [if_pos Q5]at h ⊢;obtain⟨g1,g2,g3⟩:=hI _ _ _ h;rw [E.skip (i:=i+1) hl (by omega)];exact⟨g2,g3⟩
 rw [if_neg Q5]at h ⊢;cases h1:js L i with
 | error e=>rw [h1]at h;cases h
 | ok q=>
  obtain⟨x,a⟩:=q;obtain⟨ha,e1⟩:=MI E _ _ _ h1;rw [h1]at h;rw [e1];simp only at h ⊢;injection h with h;injection h with h3 h4;subst h3 h4;exact⟨ha,rfl⟩
theorem It {inner inner':Nat→jY aa} (hI:Sb p L inner inner'):∀ (f f' i:Nat) (cur s:aa) (j:Nat),f≤f'→i≤L.length→dM inner L f i cur=.ok (s,j)→j≤L.length∧dM inner' L' f' (p+i) cur=.ok (s,p+j):=by
 intro f;induction f with
 | zero=>intro f' i cur s j _ _ h;unfold dM at h;cases h
 | succ f ih=>
  intro f' i cur s j hf hi h;obtain⟨f',rfl⟩:∃ g,f'=g+1:=⟨f' - 1,by omega⟩;rw [dM]at h ⊢;by_cases O3:Go.Proofs.YtblinekbpcdbfaaGreatDoor.pk L (aN L i)=93
  ·have hl:aN L i<L.length:=bl (by omega);rw [if_pos O3]at h;rw [E.skip hi hl,E.pk hl,if_pos O3];injection h with h;injection h with h3 h4;subst h3 h4;exact⟨hl,rfl⟩
  rw [if_neg O3]at h;cases h1:dc inner L (aN L i)with
  | error e=>rw [h1]at h;cases h
  | ok q=>
   obtain⟨t,a⟩:=q;obtain⟨hl,ha,e1⟩:=K8 E hI _ _ _ h1;rw [h1]at h;rw [E.skip hi hl,E.pk hl,if_neg O3,e1];simp only at h ⊢;by_cases hw:(nC (uA (Go.Proofs.YtblinekbpcdbfaaGreatDoor.pk L (aN L i))) cur t).2≠0
   ·rw [if_pos hw]at h;cases h
   rw [if_neg hw]at h ⊢;exact ih f' a _ _ _ (by omega) ha h
theorem Bd (hL:cR L):∀ n,Sb p L (bw L n) (bw L' n):=by
 intro n;induction n with
 | zero=>intro i s j h;unfold bw at h;cases h
 | succ n ih=>
  intro i s j h;refine⟨(ov hL (n+1) i s j h).1,?_⟩;rw [bw]at h ⊢;cases h1:aQ L i 91 with
  | error e=>rw [h1]at h;cases h
  | ok a=>
   obtain⟨ha,e1⟩:=jt E h1 (by decide);rw [h1]at h;rw [e1];simp only at h ⊢;have c1:=E.is ha (r:=94) (by decide) (by decide) (by decide);have hst:(if Go.Proofs.YtblinekbpcdbfaaGreatDoor.pk L' (p+a)=94 then p+a+1 else p+a)=p+(if Go.Proofs.YtblinekbpcdbfaaGreatDoor.pk L a=94 then a+1 else a):=by
    by_cases nT:Go.Proofs.YtblinekbpcdbfaaGreatDoor.pk L a=94
    ·rw [if_pos nT,if_pos (c1.2 nT)];rfl
    rw [if_neg nT,if_neg (fun x=>nT (c1.1 x))]
   rw [hst];have Sk:(if Go.Proofs.YtblinekbpcdbfaaGreatDoor.pk L a=94 then a+1 else a)≤L.length:=by
    split
    ·rename_i nT;exact bl (by omega)
    exact ha
   cases h2:dM (bw L n) L (L.length+1) (if Go.Proofs.YtblinekbpcdbfaaGreatDoor.pk L a=94 then a+1 else a) []with
   | error e=>rw [h2]at h;cases h
   | ok q=>
    obtain⟨cur,k⟩:=q;obtain⟨hk,e2⟩:=It E ih _ (L'.length+1) _ _ _ _ (by have:=E.len;omega) Sk h2;rw [h2]at h;rw [e2];simp only at h ⊢;by_cases nT:Go.Proofs.YtblinekbpcdbfaaGreatDoor.pk L a=94
    ·rw [if_pos nT]at h;rw [if_pos (c1.2 nT)];by_cases hw:(nC 94 cur []).2≠0
     ·rw [if_pos hw]at h;cases h
     rw [if_neg hw]at h ⊢;injection h with h;injection h with h3 h4;subst h3 h4;exact⟨hk,rfl⟩
    rw [if_neg nT]at h;rw [if_neg (fun x=>nT (c1.1 x))];injection h with h;injection h with h3 h4;subst h3 h4;exact⟨hk,rfl⟩
end
theorem yI (L:List Int):∀ f g i,L.length<f+i→L.length<g+i→eO L f i=eO L g i:=by
 have key:∀ g i,L.length<i→eO L g i=aN L i:=by
  intro g i h;cases g with
  | zero=>rfl
  | succ g=>
   rw [eO,if_neg];have e:aN L i=i:=cF (fun h2=>absurd h2 (by omega));rw [e,pV (by omega)];decide
 intro f;induction f with
 | zero=>intro g i h1 h2;rw [key 0 i (by omega),key g i (by omega)]
 | succ f ih=>
  intro g i h1 h2;cases g with
  | zero=>rw [key 0 i (by omega),key (f+1) i (by omega)]
  | succ g=>
   rw [eO,eO];by_cases rW:pk L (aN L i)=35
   ·rw [if_pos rW,if_pos rW];have hl:aN L i<L.length:=bl (by omega);have h3:=ee L i;have h4:aN L i+1≤az qv L (aN L i):=(by rw [dL hl (by rw [rW];rfl)];exact eK _ _ _);exact ih g _ (by omega) (by omega)
   rw [if_neg rW,if_neg rW]
theorem LQ {L:List Int} {k:Nat} (rW:pk L k=35):k<L.length∧k+1≤az qv L k:=by
 have hl:k<L.length:=bl (by omega);exact⟨hl,by rw [dL hl (by rw [rW];rfl)];exact eK _ _ _⟩
theorem oC (L:List Int) (i:Nat):ax L i=if pk L (aN L i)=35 then ax L (az qv L (aN L i))else aN L i:=by
 show eO L (L.length+1) i=_;rw [eO];by_cases rW:pk L (aN L i)=35
 ·rw [if_pos rW,if_pos rW];have:=(LQ rW).2;exact yI L _ _ _ (by omega) (by omega)
 rw [if_neg rW,if_neg rW]
theorem J4 {L:List Int} {i:Nat} (h1:pX (pk L i)=false) (h2:pk L i≠35):ax L i=i:=by
 have e:aN L i=i:=cF (fun _=>h1);rw [oC,e,if_neg h2]
theorem LU {L:List Int} (hL:cR L):∀ (f i:Nat) (out:List aF) (cur:Int) (v:List aF × Int) (j:Nat),cB L f i out cur=.ok (v,j)→ax L i≤j:=by
 intro f;induction f with
 | zero=>intro i out cur v j h;rw [cB]at h;cases h
 | succ f ih=>
  intro i out cur v j h;rw [cB]at h;cases he:bZ L (ax L i) out cur with
  | error e=>rw [he]at h;cases h
  | ok q=>
   rw [he]at h;cases q with
   | none=>simp only at h;injection h with h;injection h with h1 h2;omega
   | some q=>
    obtain⟨⟨o,c⟩,k⟩:=q;simp only at h;by_cases h20:20<o.length
    ·rw [if_pos h20]at h;cases h
    rw [if_neg h20]at h;have h1:=(wD hL he).1;have h2:=ih _ _ _ _ _ h;have h3:=de L k;omega
section
variable {p : Nat} {L L' : List Int} (E : Ju p L L')
include E
theorem fP:∀ (d i:Nat),L.length - i=d→i≤L.length→(ax L i<L.length∨pk L' (p+L.length) = -1)→ax L' (p+i)=p+ax L i:=by
 intro d;induction d using Nat.strongRecOn with
 | _ d ih=>
  intro i hd hi hq;rw [oC L i]at hq;rw [oC L i,oC L' (p+i)];by_cases rW:pk L (aN L i)=35
  ·obtain⟨hl,hm⟩:=LQ rW;rw [if_pos rW]at hq ⊢;rw [E.skip hi hl,E.pk hl,if_pos rW];have h1:=ee L i;have h2:az qv L (aN L i)≤L.length:=(iq (Nat.le_of_lt hl)).2;have h3:=de L (az qv L (aN L i));rw [E.run _ _ rfl (Nat.le_of_lt hl) (by rcases hq with hq | hq;exact .inl (by omega);exact .inr (by rw [hq];rfl))];exact ih _ (by omega) _ rfl h2 hq
  rw [if_neg rW]at hq ⊢;have hs:aN L i≤L.length:=qG hi;have e:aN L' (p+i)=p+aN L i:=E.run _ i rfl hi (by rcases hq with hq | hq;exact .inl hq;exact .inr (by rw [hq];rfl));rw [e,if_neg];rcases Nat.lt_or_ge (aN L i) L.length with hl | hl
  ·rw [E.pk hl];exact rW
  rcases hq with hq | hq;omega;rw [show aN L i=L.length by omega,hq];decide
theorem jx {i:Nat} (hi:i≤L.length):aV L' (p+i)=p+aV L i:=by
 unfold aV;rcases Nat.lt_or_ge i L.length with hl | hl
 ·rw [E.pk hl];split;exact E.S9 (by decide) (by decide) (by decide) hi;rfl
 have e:i=L.length:=(by omega);subst e;rw [pV qql,if_neg (by decide:¬ j7 (-1)=true),if_neg];rcases E.stop with e | e | e <;> rw [e] <;> decide
theorem zg {i:Nat} (hi:i≤L.length):gW L' (p+i)=gW L i:=by
 unfold gW;rw [jx E hi,E.text (kH hi)]
theorem CX {i:Nat} (hi:i≤L.length):JL p L (gh L i) (gh L' (p+i)):=by
 intro v j h;have hj:=(mE h).2.2.2;unfold gh at h ⊢;rw [zg E hi,jx E hi];split at h
 ·rename_i hn;rw [if_pos hn];injection h with h;injection h with h3 h4;subst h3 h4;exact⟨kH hi,rfl⟩
 cases h
theorem EL {i:Nat} (hi:i<L.length):JL p L (fV L i) (fV L' (p+i)):=by
 intro v j h;have hj:=(wT h).2;refine⟨hj,?_⟩;unfold fV at h ⊢;by_cases yW:pk L (az ld L (i+1))=39
 ·have hl:az ld L (i+1)<L.length:=bl (by omega);rw [if_pos yW]at h;rw [show p+i+1=p+(i+1) from rfl,E.run _ (i+1) rfl hi (.inl hl),E.pk hl,if_pos yW,E.text (Nat.le_of_lt hl)];injection h with h;injection h with h3 h4;subst h3 h4;rfl
 rw [if_neg yW]at h;cases h
theorem Hs {k:Nat} (hk:k≤L.length):j7 (pk L' (p+k))=j7 (pk L k):=by
 rcases Nat.lt_or_ge k L.length with hl | hl
 ·rw [E.pk hl]
 have e:k=L.length:=(by omega);subst e;rw [pV qql];rcases E.stop with e | e | e <;> rw [e] <;> decide
theorem ym {a:Nat} (ha:a<L.length) {out:List aF} {cur:Int} (h:bZ L a out cur=.ok none):bZ L' (p+a) out cur=.ok none:=by
 unfold bZ at h ⊢;rw [E.pk ha,show p+a+1=p+(a+1) from rfl,Hs E ha];by_cases ue:pk L a=124
 ·rw [if_pos ue]at h;split at h <;> first | cases h | (injection h with h;cases h)
 rw [if_neg ue]at h ⊢;by_cases kX:pk L a=91
 ·rw [if_pos kX]at h;split at h <;> first | cases h | (injection h with h;cases h)
 rw [if_neg kX]at h ⊢;by_cases lg:pk L a=36∧j7 (pk L (a+1))=true
 ·rw [if_pos lg]at h;split at h <;> first | cases h | (injection h with h;cases h)
 rw [if_neg lg]at h ⊢;by_cases yW:pk L a=39
 ·rw [if_pos yW]at h;split at h <;> first | cases h | (injection h with h;cases h)
 rw [if_neg yW]at h ⊢;by_cases xQ:pk L a=92∨cQ (pk L a)=true
 ·rw [if_pos xQ]at h;split at h
  ·cases h
  split at h <;> first | cases h | (injection h with h;cases h)
 rw [if_neg xQ]
theorem Ml (hL:cR L) {a j:Nat} {out o:List aF} {cur c:Int} (h:bZ L a out cur=.ok (some ((o,c),j))):a<j∧j≤L.length∧bZ L' (p+a) out cur=.ok (some ((o,c),p+j)):=by
 have haj:=(wD hL h).1;have ha:a<L.length:=by
  refine bl (fun e=>?_);unfold bZ at h;rw [e]at h;simp [cQ]at h
 refine⟨haj,?_⟩;unfold bZ at h ⊢;rw [E.pk ha,show p+a+1=p+(a+1) from rfl,Hs E ha];by_cases ue:pk L a=124
 ·rw [if_pos ue]at h ⊢;by_cases hc:0≤cur
  ·rw [if_pos hc]at h;cases h
  rw [if_neg hc]at h ⊢;injection h with h;injection h with h;injection h with h1 h2;injection h1 with h1 h3;subst h1 h2 h3;exact⟨ha,rfl⟩
 rw [if_neg ue]at h ⊢;by_cases kX:pk L a=91
 ·rw [if_pos kX]at h ⊢;cases hs:bw L 20 a with
  | error e=>rw [hs]at h;cases h
  | ok q=>
   obtain⟨s,k⟩:=q;obtain⟨_,hk,e1⟩:=Bd E hL 20 _ _ _ hs;rw [hs]at h;rw [e1];simp only at h ⊢;injection h with h;injection h with h;injection h with h1 h2;injection h1 with h1 h3;subst h1 h2 h3;exact⟨hk,rfl⟩
 rw [if_neg kX]at h ⊢;by_cases lg:pk L a=36∧j7 (pk L (a+1))=true
 ·rw [if_pos lg]at h ⊢;cases hs:gh L (a+1)with
  | error e=>rw [hs]at h;cases h
  | ok q=>
   obtain⟨s,k⟩:=q;obtain⟨hk,e1⟩:=CX E ha _ _ hs;rw [hs]at h;rw [e1];simp only at h ⊢;injection h with h;injection h with h;injection h with h1 h2;injection h1 with h1 h3;subst h1 h2 h3;exact⟨hk,rfl⟩
 rw [if_neg lg]at h ⊢;by_cases yW:pk L a=39
 ·rw [if_pos yW]at h ⊢;cases hs:fV L a with
  | error e=>rw [hs]at h;cases h
  | ok q=>
   obtain⟨s,k⟩:=q;obtain⟨hk,e1⟩:=EL E ha _ _ hs;rw [hs]at h;rw [e1];simp only at h ⊢;injection h with h;injection h with h;injection h with h1 h2;injection h1 with h1 h3;subst h1 h2 h3;exact⟨hk,rfl⟩
 rw [if_neg yW]at h ⊢;by_cases xQ:pk L a=92∨cQ (pk L a)=true
 ·rw [if_pos xQ]at h ⊢;cases hs:cL L a with
  | error e=>rw [hs]at h;cases h
  | ok q=>
   obtain⟨x,k⟩:=q;obtain⟨hk,e1⟩:=vL E _ _ _ hs;rw [hs]at h;rw [e1];simp only at h ⊢;by_cases hr:bE x=true
   ·rw [if_pos hr]at h ⊢;injection h with h;injection h with h;injection h with h1 h2;injection h1 with h1 h3;subst h1 h2 h3;exact⟨hk,rfl⟩
   rw [if_neg hr]at h;cases h
 rw [if_neg xQ]at h;injection h with h;cases h
theorem IS (hL:cR L):∀ (f f' i:Nat) (out:List aF) (cur:Int) (v:List aF × Int) (j:Nat),f≤f'→i≤L.length→cB L f i out cur=.ok (v,j)→i≤j∧j≤L.length∧(j<L.length→cB L' f' (p+i) out cur=.ok (v,p+j)):=by
 intro f;induction f with
 | zero=>intro f' i out cur v j _ _ h;rw [cB]at h;cases h
 | succ f ih=>
  intro f' i out cur v j hf hi h;obtain⟨f',rfl⟩:∃ g,f'=g+1:=⟨f' - 1,by omega⟩;have h0:=de L i;have h1:=oG hi;rw [cB]at h;cases he:bZ L (ax L i) out cur with
  | error e=>rw [he]at h;cases h
  | ok q=>
   rw [he]at h;cases q with
   | none=>
    simp only at h;injection h with h;injection h with h3 h4;subst h3 h4;exact⟨h0,h1,fun hj=>by rw [cB,fP E _ i rfl hi (.inl hj),ym E hj he]⟩
   | some q=>
    obtain⟨⟨o,c⟩,k⟩:=q;simp only at h;by_cases h20:20<o.length
    ·rw [if_pos h20]at h;cases h
    rw [if_neg h20]at h;obtain⟨g1,g2,g3⟩:=Ml E hL he;obtain⟨k1,k2,k3⟩:=ih f' k o c v j (by omega) g2 h;refine⟨by omega,k2,fun hj=>?_⟩;rw [cB,fP E _ i rfl hi (.inl (by omega)),g3];simp only;rw [if_neg h20];exact k3 hj
theorem ku (hL:cR L) {i:Nat} {v:List aF × Int} {j:Nat} (hi:i≤L.length) (h:cy L i=.ok (v,j)):i≤j∧j≤L.length∧(j<L.length→cy L' (p+i)=.ok (v,p+j)) :=
  IS E hL _ _ _ _ _ _ _ (by have:=E.len;omega) hi h
theorem M1 (hL:cR L) {start:Bool} {a:Nat} {v:List aF × List aF × Int} {j:Nat} (ha:a≤L.length) (h:dD L start a=.ok (v,j)):a≤j∧j≤L.length∧(j<L.length→dD L' start (p+a)=.ok (v,p+j)):=by
 unfold dD at h;cases hi:cy L a with
 | error e=>rw [hi]at h;cases h
 | ok q=>
  obtain⟨⟨l,c⟩,j1⟩:=q;obtain⟨g1,g2,g3⟩:=ku E hL ha hi;rw [hi]at h;simp only at h;by_cases qZ:pk L j1=123
  ·have mJ:j1<L.length:=bl (by omega);rw [if_pos qZ]at h;by_cases hc:0≤c
   ·rw [if_pos hc]at h;cases h
   rw [if_neg hc]at h;cases hi2:cy L (j1+1)with
   | error e=>rw [hi2]at h;cases h
   | ok q=>
    obtain⟨⟨l2,c2⟩,j2⟩:=q;obtain⟨k1,k2,k3⟩:=ku E hL mJ hi2;rw [hi2]at h;simp only at h;injection h with h;injection h with h3 h4;subst h3 h4;refine⟨by omega,k2,fun hj=>?_⟩;unfold dD;rw [g3 mJ];simp only;rw [E.pk mJ,if_pos qZ,if_neg hc,show p+j1+1=p+(j1+1) from rfl,k3 hj]
  rw [if_neg qZ]at h;by_cases hs:start=true
  ·rw [if_pos hs]at h;cases h
  rw [if_neg hs]at h;injection h with h;injection h with h3 h4;subst h3 h4;refine⟨g1,g2,fun hj=>?_⟩;unfold dD;rw [g3 hj];simp only;rw [E.pk hj,if_neg qZ,if_neg hs]
theorem Dz (hL:cR L) {i:Nat} {v:List aF × Bool} {j:Nat} (hi:i≤L.length) (h:ef L i=.ok (v,j)):i≤j∧j≤L.length∧(j<L.length→ef L' (p+i)=.ok (v,p+j)):=by
 unfold ef at h;by_cases wB:pk L i=125
 ·have hl:i<L.length:=bl (by omega);rw [if_pos wB]at h;cases hi2:cy L (i+1)with
  | error e=>rw [hi2]at h;cases h
  | ok q=>
   obtain⟨⟨l,c⟩,k⟩:=q;obtain⟨k1,k2,k3⟩:=ku E hL hl hi2;rw [hi2]at h;simp only at h;by_cases hc:0≤c
   ·rw [if_pos hc]at h;cases h
   rw [if_neg hc]at h;by_cases lg:pk L k=36
   ·have jc:k<L.length:=bl (by omega);rw [if_pos lg]at h;injection h with h;injection h with h3 h4;subst h3 h4;refine⟨by omega,jc,fun hj=>?_⟩;unfold ef;rw [E.pk hl,if_pos wB,show p+i+1=p+(i+1) from rfl,k3 jc];simp only;rw [if_neg hc,E.pk jc,if_pos lg];rfl
   rw [if_neg lg]at h;injection h with h;injection h with h3 h4;subst h3 h4;refine⟨by omega,k2,fun hj=>?_⟩;unfold ef;rw [E.pk hl,if_pos wB,show p+i+1=p+(i+1) from rfl,k3 hj];simp only;rw [if_neg hc,E.pk hj,if_neg lg]
 rw [if_neg wB]at h;injection h with h;injection h with h3 h4;subst h3 h4;refine⟨qql,hi,fun hj=>?_⟩;unfold ef;rw [E.pk hj,if_neg wB]
theorem Cx (hL:cR L) {i:Nat} {v:bV} {j:Nat} (hi:i≤L.length) (h:dw L i=.ok (v,j)):ax L i≤j∧j≤L.length∧(j<L.length→dw L' (p+i)=.ok (v,p+j)):=by
 unfold dw at h;obtain⟨a0,ha0⟩:∃ a0,ax L i=a0:=⟨_,rfl⟩;rw [ha0]at h;have Zb:a0≤L.length:=(by rw [← ha0];exact oG hi);obtain⟨a1,mG⟩:∃ a1,(if pk L a0=94 then a0+1 else a0)=a1:=⟨_,rfl⟩;rw [mG]at h;have Zv:a0≤a1∧a1≤L.length:=by
  rw [← mG];split
  ·rename_i nT;have:=bl (L:=L) (i:=a0) (by omega);omega
  exact⟨qql,Zb⟩
 cases hh:dD L (decide (pk L a0=94)) a1 with
 | error e=>rw [hh]at h;cases h
 | ok q=>
  obtain⟨⟨b,s,c⟩,j1⟩:=q;obtain⟨g1,g2,g3⟩:=M1 E hL Zv.2 hh;rw [hh]at h;simp only at h;cases ht:ef L j1 with
  | error e=>rw [ht]at h;cases h
  | ok q=>
   obtain⟨⟨a,fin⟩,k⟩:=q;obtain⟨k1,k2,k3⟩:=Dz E hL g2 ht;rw [ht]at h;simp only at h;injection h with h;injection h with h3 h4;subst h3 h4;have h5:=de L k;have h6:=oG k2;refine⟨by omega,h6,fun hj=>?_⟩;have C5:a0<L.length:=(by omega);unfold dw;rw [fP E _ i rfl hi (.inl (by omega)),ha0,E.pk C5,show(if pk L a0=94 then p+a0+1 else p+a0)=p+a1 by rw [← mG];split <;> rfl,g3 (by omega)];simp only;rw [k3 (by omega)];simp only;rw [fP E _ k rfl k2 (.inl hj)]
theorem zB {i:Nat} {d:Int} {j:Nat} (h:eJ L i=.ok (d,j)):i<j∧j≤L.length∧eJ L' (p+i)=.ok (d,p+j):=by
 unfold eJ at h ⊢;by_cases JW:pk L i=62
 ·have hl:i<L.length:=bl (by omega);rw [if_pos JW]at h;injection h with h;injection h with h3 h4;subst h3 h4;rw [E.pk hl,if_pos JW];exact⟨by omega,hl,rfl⟩
 rw [if_neg JW]at h;by_cases zE:pk L i=60∧pk L (i+1)=62
 ·have hl:i<L.length:=bl (by omega);have jc:i+1<L.length:=bl (by omega);rw [if_pos zE]at h;injection h with h;injection h with h3 h4;subst h3 h4;rw [E.pk hl,show p+i+1=p+(i+1) from rfl,E.pk jc,if_neg JW,if_pos zE];exact⟨by omega,jc,rfl⟩
 rw [if_neg zE]at h;cases hn:aQ L i 60 with
 | error e=>rw [hn]at h;cases h
 | ok k=>
  obtain⟨hk,e1⟩:=jt E hn (by decide);obtain⟨rfl,hp⟩:=fH hn;have hl:i<L.length:=hk;rw [hn]at h;simp only at h;injection h with h;injection h with h3 h4;subst h3 h4;have c1:=E.is (k:=i+1) hk (r:=62) (by decide) (by decide) (by decide);rw [E.pk hl,if_neg JW,show p+i+1=p+(i+1) from rfl,if_neg (fun x=>zE ⟨x.1,c1.1 x.2⟩),e1];exact⟨by omega,hk,rfl⟩
theorem NJ (hL:cR L) {i:Nat} {v:aG} {j:Nat} (hi:i≤L.length) (h:jv L i=.ok (v,j)):i≤j∧j≤L.length∧(j<L.length→jv L' (p+i)=.ok (v,p+j)):=by
 unfold jv at h;cases hs:dw L i with
 | error e=>rw [hs]at h;cases h
 | ok q=>
  obtain⟨l,a⟩:=q;obtain⟨g1,g2,g3⟩:=Cx E hL hi hs;rw [hs]at h;simp only at h;cases ha:eJ L a with
  | error e=>rw [ha]at h;cases h
  | ok q=>
   obtain⟨d,k⟩:=q;obtain⟨k1,k2,k3⟩:=zB E ha;rw [ha]at h;simp only at h;cases uL:dw L k with
   | error e=>rw [uL]at h;cases h
   | ok q=>
    obtain⟨r,m⟩:=q;obtain⟨m1,m2,m3⟩:=Cx E hL k2 uL;rw [uL]at h;simp only at h;have h7:=de L i;have h8:=de L k;by_cases hw:gM ⟨2,eD,[],d,l,r⟩≠0
    ·rw [if_pos hw]at h;cases h
    rw [if_neg hw]at h;injection h with h;injection h with h3 h4;subst h3 h4;refine⟨by omega,m2,fun hj=>?_⟩;unfold jv;rw [g3 (by omega)];simp only;rw [k3];simp only;rw [m3 hj];simp only;rw [if_neg hw]
theorem Ly (hL:cR L) {i:Nat} {v:aG} {j:Nat} (h:jA L i=.ok (v,j)):i≤j∧j≤L.length∧(j<L.length→jA L' (p+i)=.ok (v,p+j)):=by
 unfold jA at h;cases hn:aQ L (i+1) 58 with
 | error e=>rw [hn]at h;cases h
 | ok a=>
  obtain⟨ha,e1⟩:=jt E hn (by decide);have h0:=(fH hn).1;rw [hn]at h;simp only at h;have h5:=de L a;have h6:=oG ha;by_cases kX:pk L (ax L a)=91
  ·have hl:ax L a<L.length:=bl (by omega);rw [if_pos kX]at h;cases hs:bw L 20 (ax L a)with
   | error e=>rw [hs]at h;cases h
   | ok q=>
    obtain⟨s,k⟩:=q;obtain⟨k0,k1,k2⟩:=Bd E hL 20 _ _ _ hs;rw [hs]at h;simp only at h;injection h with h;injection h with h3 h4;subst h3 h4;refine⟨by omega,k1,fun hj=>?_⟩;unfold jA;rw [show p+i+1=p+(i+1) from rfl,e1];simp only;rw [fP E _ a rfl ha (.inl hl),E.pk hl,if_pos kX,k2]
  rw [if_neg kX]at h;by_cases hb:jR (gW L (ax L a))=true
  ·rw [if_pos hb]at h;injection h with h;injection h with h3 h4;subst h3 h4;have h7:=vS L (ax L a);refine⟨by omega,kH h6,fun hj=>?_⟩;have hl:ax L a<L.length:=(by omega);unfold jA;rw [show p+i+1=p+(i+1) from rfl,e1];simp only;rw [fP E _ a rfl ha (.inl hl),E.pk hl,if_neg kX,zg E h6,if_pos hb,jx E h6]
  rw [if_neg hb]at h;cases h
theorem Pe (hL:cR L) {i:Nat} {v:aG} {j:Nat} (hi:i<L.length) (h:oZ L i=.ok (v,j)):i≤j∧j≤L.length∧(j<L.length→oZ L' (p+i)=.ok (v,p+j)):=by
 unfold oZ at h;cases hn:gh L (i+1)with
 | error e=>rw [hn]at h;cases h
 | ok q=>
  obtain⟨s,a⟩:=q;obtain⟨ha,e1⟩:=CX E hi _ _ hn;have h0:=(mE hn).1;rw [hn]at h;simp only at h;cases hq:aQ L (ax L a) 61 with
  | error e=>rw [hq]at h;cases h
  | ok k=>
   obtain⟨hk,e2⟩:=jt E hq (by decide);have h1:=(fH hq).1;have h2:=de L a;rw [hq]at h;simp only at h;cases hs:bw L 20 (ax L k)with
   | error e=>rw [hs]at h;cases h
   | ok q=>
    obtain⟨t,m⟩:=q;obtain⟨k0,k1,k2⟩:=Bd E hL 20 _ _ _ hs;have h4:=de L k;rw [hs]at h;simp only at h;injection h with h;injection h with h3 h5;subst h3 h5;refine⟨by omega,k1,fun hj=>?_⟩;unfold oZ;rw [show p+i+1=p+(i+1) from rfl,e1];simp only;rw [fP E _ a rfl ha (.inl (by omega)),e2];simp only;rw [fP E _ k rfl hk (.inl (by omega)),k2]
end
theorem B7 {L:List Int} (hL:cR L) {i:Nat} {v:bV} {j:Nat} (lg:pk L i=36) (h:dw L i=.ok (v,j)):j=i∨ax L (aV L (i+1))≤j:=by
 have E:Ju 0 L L:=⟨fun k _=>by rw [Nat.zero_add],.inr (.inr (by rw [Nat.zero_add];exact pV qql))⟩;have e0:ax L i=i:=J4 (by rw [lg];decide) (by rw [lg];decide);have hl:i<L.length:=bl (by omega);unfold dw at h;rw [e0,if_neg (by rw [lg];decide),show decide (pk L i=94)=false by rw [lg];decide]at h;unfold dD at h;cases hi:cy L i with
 | error e=>rw [hi]at h;cases h
 | ok q=>
  obtain⟨⟨l,c⟩,j1⟩:=q;have Sq:=ku E hL (Nat.le_of_lt hl) hi;have key:j1=i∨ax L (aV L (i+1))≤j1:=by
   unfold cy at hi;rw [cB,e0]at hi;unfold bZ at hi;rw [if_neg (by rw [lg];decide),if_neg (by rw [lg];decide)]at hi;by_cases hc:pk L i=36∧j7 (pk L (i+1))=true
   ·rw [if_pos hc]at hi;cases hs:gh L (i+1)with
    | error e=>rw [hs]at hi;cases hi
    | ok q=>
     obtain⟨s,k⟩:=q;have hk:=(mE hs).2.2.2;rw [hs]at hi;simp only at hi;split at hi
     ·cases hi
     have:=LU hL _ _ _ _ _ _ hi;rw [hk]at this;exact .inr this
   rw [if_neg hc,if_neg (by rw [lg];decide),if_neg (by rw [lg];decide)]at hi;simp only at hi;injection hi with hi;injection hi with h3 h4;exact .inl h4.symm
  rw [hi]at h;simp only at h;rcases key with rfl | key
  ·rw [if_neg (by rw [lg];decide),if_neg (by decide)]at h;simp only at h;unfold ef at h;rw [if_neg (by rw [lg];decide)]at h;simp only at h;injection h with h;injection h with h3 h4;rw [e0]at h4;exact .inl h4.symm
  right;have up:∀ (r:jY (List aF × List aF × Int)),(match r with | .error e=>Except.error e | .ok ((b,s,c),j)=>match ef L j with | .error e=>.error e | .ok ((a,fin),k)=>.ok ((⟨false,fin,b,s,a,c⟩:bV),ax L k))=.ok (v,j)→(∀ x k,r=.ok (x,k)→j1≤k∧k≤L.length)→j1≤j:=by
   intro r hr hk;cases r with
   | error e=>cases hr
   | ok q=>
    obtain⟨⟨b,s,c⟩,k⟩:=q;obtain⟨hk1,hk2⟩:=hk _ _ rfl;simp only at hr;cases ht:ef L k with
    | error e=>rw [ht]at hr;cases hr
    | ok q=>
     obtain⟨⟨a,fin⟩,m⟩:=q;have hm:=(Dz E hL hk2 ht).1;rw [ht]at hr;simp only at hr;injection hr with hr;injection hr with h3 h4;have:=de L m;omega
  refine Nat.le_trans key (up _ h ?_);intro x k hk;split at hk
  ·rename_i qZ;have mJ:j1<L.length:=bl (by omega);split at hk
   ·cases hk
   cases hi2:cy L (j1+1)with
   | error e=>rw [hi2]at hk;cases hk
   | ok q=>
    obtain⟨⟨l2,c2⟩,j2⟩:=q;have:=ku E hL mJ hi2;rw [hi2]at hk;simp only at hk;injection hk with hk;injection hk with h3 h4;omega
  rw [if_neg (by decide)]at hk;injection hk with hk;injection hk with h3 h4;omega
theorem zL {p:Nat} {L L':List Int} (E:Ju p L L') (hL:cR L) {i:Nat} {v:aG} {j:Nat} (hi:i≤L.length) (h:jQ L i=.ok (v,j)):i≤j∧j≤L.length∧(j<L.length→jQ L' (p+i)=.ok (v,p+j)):=by
 unfold jQ at h;by_cases wZ:pk L i=58
 ·rw [if_pos wZ]at h;have hl:i<L.length:=bl (by omega);obtain⟨g1,g2,g3⟩:=Ly E hL h;refine⟨g1,g2,fun hj=>?_⟩;unfold jQ;rw [E.pk hl,if_pos wZ];exact g3 hj
 rw [if_neg wZ]at h;by_cases lg:pk L i=36∧pk L (ax L (aV L (i+1)))=61
 ·rw [if_pos lg]at h;have hl:i<L.length:=bl (by omega);have jc:ax L (aV L (i+1))<L.length:=bl (by omega);obtain⟨g1,g2,g3⟩:=Pe E hL hl h;refine⟨g1,g2,fun hj=>?_⟩;unfold jQ;rw [E.pk hl,if_neg wZ,show p+i+1=p+(i+1) from rfl,jx E hl,fP E _ _ rfl (kH hl) (.inl jc),E.pk jc,if_pos lg];exact g3 hj
 rw [if_neg lg]at h;obtain⟨g1,g2,g3⟩:=NJ E hL hi h;refine⟨g1,g2,fun hj=>?_⟩;have hl:i<L.length:=(by omega);unfold jQ;rw [E.pk hl,if_neg wZ,if_neg];exact g3 hj;rintro⟨x1,x2⟩;rw [show p+i+1=p+(i+1) from rfl,jx E hl]at x2;rcases Nat.lt_or_ge (ax L (aV L (i+1))) L.length with hs | hs
 ·rw [fP E _ _ rfl (kH hl) (.inl hs),E.pk hs]at x2;exact lg ⟨x1,x2⟩
 unfold jv at h;cases hsd:dw L i with
 | error e=>rw [hsd]at h;cases h
 | ok q=>
  obtain⟨l,a⟩:=q;rw [hsd]at h;simp only at h;cases ha:eJ L a with
  | error e=>rw [ha]at h;cases h
  | ok q=>
   obtain⟨d,k⟩:=q;have hk:=(zB E ha);rcases B7 hL x1 hsd with rfl | hge
   ·unfold eJ at ha;rw [if_neg (by omega),if_neg (fun x=>by have:=x.1;omega),zJ (by omega)]at ha;cases ha
   omega
theorem Lk {L:List Int} (hL:cR L) {i:Nat} {v:aG} {j:Nat} (hi:i≤L.length) (h:jQ L i=.ok (v,j)):i≤j∧j≤L.length:=by
 have E:Ju 0 L L:=⟨fun k _=>by rw [Nat.zero_add],.inr (.inr (by rw [Nat.zero_add];exact pV qql))⟩;exact⟨(zL E hL hi h).1,(zL E hL hi h).2.1⟩
theorem pz (A:Option Addr) (n c:Nat) (l:List aG) (w:World) (hn:n≤maxLen) (hl:G8 w w.heap.size A n l) :
    Calls Tryz.prog 61 #[.slice A n c] w fun e w'=>e=.returned (.agg #[.int .i64 (fu l).1,.int .i64 (fu l).2])∧Below w.heap.size w w':=by
 have aW:=qqh (kf.len hl);have HL:=qqh hl;have hn2:n≤9223372036854775807:=(by unfold maxLen at hn;omega);clear hl hn;by_cases h20:200<n
 ·have HP:=qqh (show fu l=(5,0) by unfold fu;rw [if_pos (by rw [aW.out];exact h20)]);go_enter Tryz.func61,Tryz.ntmps61;go_wp2_with fail;rw [HP.out];exact bodyPost_ret (v:=.agg #[.int .i64 5,.int .i64 0]) (by simp [results,Tryz.results61,go_sem]) rfl ⟨rfl,qqb.alloc qql _⟩
 have HP:=qqh (show fu l=lR 0 l by unfold fu;rw [if_neg (by rw [aW.out];exact h20)]);go_enter Tryz.func61,Tryz.ntmps61;go_wp2_with fail;go_loopw [12] (WQ w l n) (fun i _=>n - (intOf i).toNat);(case atStart=>exact⟨0,Nat.zero_le _,rfl,rfl,aj.new _ _ _,qqb.alloc qql _⟩);obtain⟨k,hk,rfl,aZ,hres,hb⟩:=hrel;have hz:=hb.size;have aeS:=hres.lt;by_cases hlt:k<n
 ·obtain⟨p,hp⟩:∃ z,l[k]? = some z:=⟨_,List.getElem?_eq_getElem (by rw [aW.out];exact hlt)⟩;rw [cT hp,lR]at aZ;obtain⟨b,off,A',n',c',L1,L2,L3,R1,R2,R3,a1,a2,a3,x1,x2,x3,b1,b2,b3,y1,y2,y3,rfl,ey,⟨f0,f1,f2,f3,f4,f5,f6,f7,f8,f9,f10,f11,f12,f13,f14,f15⟩,hs,hn',l1,l2,l3,Bm,xS,Bq,r1,r2,r3,Bp,x7,AA,cl,cr,hm⟩:=GX HL.out hp;have d0:=(hb.cell (p:=⟨b,off+k*16,none⟩) ey).trans f0;have d1:=(hb.cell (p:=⟨b,off+k*16+1,none⟩) ey).trans f1;have d2:=(hb.cell (p:=⟨b,off+k*16+2,none⟩) ey).trans f2;have d3:=(hb.cell (p:=⟨b,off+k*16+3,none⟩) ey).trans f3;have d4:=(hb.cell (p:=⟨b,off+k*16+4,none⟩) ey).trans f4;have d5:=(hb.cell (p:=⟨b,off+k*16+5,none⟩) ey).trans f5;have d6:=(hb.cell (p:=⟨b,off+k*16+6,none⟩) ey).trans f6;have d7:=(hb.cell (p:=⟨b,off+k*16+7,none⟩) ey).trans f7;have d8:=(hb.cell (p:=⟨b,off+k*16+8,none⟩) ey).trans f8;have d9:=(hb.cell (p:=⟨b,off+k*16+9,none⟩) ey).trans f9;have d10:=(hb.cell (p:=⟨b,off+k*16+10,none⟩) ey).trans f10;have d11:=(hb.cell (p:=⟨b,off+k*16+11,none⟩) ey).trans f11;have d12:=(hb.cell (p:=⟨b,off+k*16+12,none⟩) ey).trans f12;have d13:=(hb.cell (p:=⟨b,off+k*16+13,none⟩) ey).trans f13;have d14:=(hb.cell (p:=⟨b,off+k*16+14,none⟩) ey).trans f14;have d15:=(hb.cell (p:=⟨b,off+k*16+15,none⟩) ey).trans f15;have HI:=qqh (fun w' (hw:Below w.heap.size w w')=>qV p A' n' c' L1 L2 L3 R1 R2 R3 a1 a2 a3 x1 x2 x3 b1 b2 b3 y1 y2 y3 w' (Rd.more (Rd.below hs hw) hw.size) hn' (aL l1 hw) (aL l2 hw) (aL l3 hw) Bm xS Bq (aL r1 hw) (aL r2 hw) (aL r3 hw) Bp x7 AA);clear f0 f1 f2 f3 f4 f5 f6 f7 f8 f9 f10 f11 f12 f13 f14 f15 hs hn' l1 l2 l3 Bm xS Bq r1 r2 r3 Bp x7 AA cl cr hm
  have bJ:=qqh (hb.alloc hz (.cells #[.int .i64 p.kind,.string p.name,.slice A' n' c',.int .i64 p.dir,.bool p.left.start,.bool p.left.fin,.slice L1 a1 x1,.slice L2 a2 x2,.slice L3 a3 x3,.int .i64 p.left.af,.bool p.right.start,.bool p.right.fin,.slice R1 b1 y1,.slice R2 b2 y2,.slice R3 b3 y3,.int .i64 p.right.af] 86));have yz:=qqh (hres.alloc (.cells #[.int .i64 p.kind,.string p.name,.slice A' n' c',.int .i64 p.dir,.bool p.left.start,.bool p.left.fin,.slice L1 a1 x1,.slice L2 a2 x2,.slice L3 a3 x3,.int .i64 p.left.af,.bool p.right.start,.bool p.right.fin,.slice R1 b1 y1,.slice R2 b2 y2,.slice R3 b3 y3,.int .i64 p.right.af] 86));by_cases hi:gM p=0
  ·rw [if_pos hi]at aZ;have HG:=qqh aZ;clear aZ hres;go_wp2_with fail;refine(HI.out _ bJ.out).mono ?_;rintro e w2 ⟨rfl,aX⟩;rw [hi];have hk2:=aj.below yz.out aX yz.out.lt;have bP:=bJ.out.trans (aX.mono bJ.out.size);have Gz:=qqh hk2;have bM:=qqh bP;clear aX bP hk2;go_wp2_with fail;exact⟨⟨k+1,by omega,by go_num,HG.out,Gz.out,bM.out⟩,by simp [intOf];omega⟩
  rw [if_neg hi]at aZ;have hi2:(gM p != 0)=true:=(by simpa using hi);have HG:=qqh aZ;clear aZ hres hi;go_wp2_with fail;refine(HI.out _ bJ.out).mono ?_;rintro e w2 ⟨rfl,aX⟩;have hk2:=aj.below yz.out aX yz.out.lt;have bP:=bJ.out.trans (aX.mono bJ.out.size);have q0:w2.cell? ⟨w.heap.size,0,none⟩=some (.int .i64 0):=hk2.cell 0;have q1:w2.cell? ⟨w.heap.size,1,none⟩=some (.int .i64 0):=hk2.cell 1;have q2:=hk2.frozen 0;have q3:=hk2.frozen 1;have bM:=qqh bP;clear aX bP hk2;go_wp2_with fail;rw [HP.out,HG.out];exact bodyPost_ret (v:=.agg #[.int .i64 (gM p),.int .i64 k]) (by simp [results,Tryz.results61,go_sem,q0,q1]) rfl ⟨rfl,(bM.out.setCell (by simp) _).setCell (by simp) _⟩
 obtain rfl:k=n:=(by omega);rw [List.drop_of_length_le (by rw [aW.out];omega)]at aZ;have HG:=qqh (aZ.trans (show lR k [] =(0,0) from rfl));have q0:wr.cell? ⟨w.heap.size,0,none⟩=some (.int .i64 0):=hres.cell 0;have q1:wr.cell? ⟨w.heap.size,1,none⟩=some (.int .i64 0):=hres.cell 1;have q2:=hres.frozen 0;have q3:=hres.frozen 1;clear aZ hres;go_wp2_with fail;rw [HP.out,HG.out];exact bodyPost_ret (v:=.agg #[.int .i64 0,.int .i64 0]) (by simp [results,Tryz.results61,go_sem,q0,q1]) rfl ⟨rfl,(hb.setCell (by simp) _).setCell (by simp) _⟩
end Go.Proofs.YtblinekbpcdbfaaGreatDoor
