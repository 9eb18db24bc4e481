/- PartWalk + PartAll + RulesP + RulesMono + RulesEmb + SpaceEq + RulesEmb2 + FileSyn -/
import Derived.Test.YthgkedoildcbcaaGreatDoorZg10
import Derived.Deep.RegionWith
import Derived.Test.YthgkedoildcbcaaGreatDoorZg8
import Derived.Test.YthgkedoildcbcaaGreatDoorZg11
set_option maxHeartbeats 1600000
set_option maxRecDepth 100000
namespace Go.Proofs.YthgkedoildcbcaaGreatDoor
open Go.RowKit
theorem BY {w:World} {g:Nat} {t:TypeId} {cs:Array Value} (h:ai w g t cs):ai w.drew g t cs:=h
theorem LM (name:ByteArray) (set:af) (left right:bQ) (dir:Int) (A:Option Addr) (n c:Nat) (L1 L2 L3 R1 R2 R3:Option Addr) (a1 a2 a3 x1 x2 x3 b1 b2 b3 y1 y2 y3:Nat) (w:World) (hs:jz w w.heap.size A n set) (hn:n≤9223372036854775807) :
    Calls Tryz.prog 62 #[.agg #[.int .i64 1,.string name,.slice A n c,.int .i64 dir,.bool left.start,.bool left.fin,.slice L1 a1 x1,.slice L2 a2 x2,.slice L3 a3 x3,.int .i64 left.ag,.bool right.start,.bool right.fin,.slice R1 b1 y1,.slice R2 b2 y2,.slice R3 b3 y3,.int .i64 right.ag]] w fun e w'=>e=.returned (.int .i64 (if ee name=true then bA set else 7))∧Below w.heap.size w w':=by
 have HB:=qqh ((Below.refl w.heap.size w).alloc (Nat.le_refl _) (.cells #[.int .i64 1,.string name,.slice A n c,.int .i64 dir,.bool left.start,.bool left.fin,.slice L1 a1 x1,.slice L2 a2 x2,.slice L3 a3 x3,.int .i64 left.ag,.bool right.start,.bool right.fin,.slice R1 b1 y1,.slice R2 b2 y2,.slice R3 b3 y3,.int .i64 right.ag] 97));have HS:=qqh (rB hs (.cells #[.int .i64 1,.string name,.slice A n c,.int .i64 dir,.bool left.start,.bool left.fin,.slice L1 a1 x1,.slice L2 a2 x2,.slice L3 a3 x3,.int .i64 left.ag,.bool right.start,.bool right.fin,.slice R1 b1 y1,.slice R2 b2 y2,.slice R3 b3 y3,.int .i64 right.ag] 97));clear hs;cases hr:ee name
 ·go_enter Tryz.func62,Tryz.ntmps62;go_wp2_with (go_at_call 88;refine(iU _ _).mono ?_;rintro e w' ⟨rfl,rfl⟩;rw [hr]);go_ret;exact⟨rfl,HB.out⟩
 go_enter Tryz.func62,Tryz.ntmps62;go_wp2_with (go_at_call 88;refine(iU _ _).mono ?_;rintro e w' ⟨rfl,rfl⟩;rw [hr]);refine(gR A n c set _ hn HS.out).mono ?_;rintro e w' ⟨rfl,hb⟩;go_wp2_with fail;go_ret;exact⟨rfl,HB.out.trans (hb.mono (by simp))⟩
theorem Bq (name:ByteArray) (set:af) (left right:bQ) (dir:Int) (A:Option Addr) (n c:Nat) (L1 L2 L3 R1 R2 R3:Option Addr) (a1 a2 a3 x1 x2 x3 b1 b2 b3 y1 y2 y3:Nat) (w:World) (hs:jz w w.heap.size A n set) (hn:n≤9223372036854775807) :
    Calls Tryz.prog 62 #[.agg #[.int .i64 3,.string name,.slice A n c,.int .i64 dir,.bool left.start,.bool left.fin,.slice L1 a1 x1,.slice L2 a2 x2,.slice L3 a3 x3,.int .i64 left.ag,.bool right.start,.bool right.fin,.slice R1 b1 y1,.slice R2 b2 y2,.slice R3 b3 y3,.int .i64 right.ag]] w fun e w'=>e=.returned (.int .i64 (bA set))∧Below w.heap.size w w':=by
 have HB:=qqh ((Below.refl w.heap.size w).alloc (Nat.le_refl _) (.cells #[.int .i64 3,.string name,.slice A n c,.int .i64 dir,.bool left.start,.bool left.fin,.slice L1 a1 x1,.slice L2 a2 x2,.slice L3 a3 x3,.int .i64 left.ag,.bool right.start,.bool right.fin,.slice R1 b1 y1,.slice R2 b2 y2,.slice R3 b3 y3,.int .i64 right.ag] 97));have HS:=qqh (rB hs (.cells #[.int .i64 3,.string name,.slice A n c,.int .i64 dir,.bool left.start,.bool left.fin,.slice L1 a1 x1,.slice L2 a2 x2,.slice L3 a3 x3,.int .i64 left.ag,.bool right.start,.bool right.fin,.slice R1 b1 y1,.slice R2 b2 y2,.slice R3 b3 y3,.int .i64 right.ag] 97));clear hs;go_enter Tryz.func62,Tryz.ntmps62;go_wp2_with fail;refine(gR A n c set _ hn HS.out).mono ?_;rintro e w' ⟨rfl,hb⟩;go_wp2_with fail;go_ret;exact⟨rfl,HB.out.trans (hb.mono (by simp))⟩
theorem Fp (name:ByteArray) (left right:bQ) (kind dir:Int) (A:Option Addr) (n c:Nat) (L1 L2 L3 R1 R2 R3:Option Addr) (a1 a2 a3 x1 x2 x3 b1 b2 b3 y1 y2 y3:Nat) (w:World) (k1:kind≠1) (k2:kind≠2) (k3:kind≠3) (k4:kind≠4) :
    Calls Tryz.prog 62 #[.agg #[.int .i64 kind,.string name,.slice A n c,.int .i64 dir,.bool left.start,.bool left.fin,.slice L1 a1 x1,.slice L2 a2 x2,.slice L3 a3 x3,.int .i64 left.ag,.bool right.start,.bool right.fin,.slice R1 b1 y1,.slice R2 b2 y2,.slice R3 b3 y3,.int .i64 right.ag]] w fun e w'=>e=.returned (.int .i64 (1))∧Below w.heap.size w w':=by
 have HB:=qqh ((Below.refl w.heap.size w).alloc (Nat.le_refl _) (.cells #[.int .i64 kind,.string name,.slice A n c,.int .i64 dir,.bool left.start,.bool left.fin,.slice L1 a1 x1,.slice L2 a2 x2,.slice L3 a3 x3,.int .i64 left.ag,.bool right.start,.bool right.fin,.slice R1 b1 y1,.slice R2 b2 y2,.slice R3 b3 y3,.int .i64 right.ag] 97));have e1:(kind == 1)=false:=(by simpa using k1);have e2:(kind == 2)=false:=(by simpa using k2);have e3:(kind == 3)=false:=(by simpa using k3);have e4:(kind == 4)=false:=(by simpa using k4);clear k1 k2 k3 k4;go_enter Tryz.func62,Tryz.ntmps62;go_wp2_with fail;go_ret;exact⟨rfl,HB.out⟩
theorem I7 (name:ByteArray) (left right:bQ) (dir:Int) (A:Option Addr) (n c:Nat) (L1 L2 L3 R1 R2 R3:Option Addr) (a1 a2 a3 x1 x2 x3 b1 b2 b3 y1 y2 y3:Nat) (w:World)  :
    Calls Tryz.prog 62 #[.agg #[.int .i64 4,.string name,.slice A n c,.int .i64 dir,.bool left.start,.bool left.fin,.slice L1 a1 x1,.slice L2 a2 x2,.slice L3 a3 x3,.int .i64 left.ag,.bool right.start,.bool right.fin,.slice R1 b1 y1,.slice R2 b2 y2,.slice R3 b3 y3,.int .i64 right.ag]] w fun e w'=>e=.returned (.int .i64 (if jD name=true then 0 else 7))∧Below w.heap.size w w':=by
 have HB:=qqh ((Below.refl w.heap.size w).alloc (Nat.le_refl _) (.cells #[.int .i64 4,.string name,.slice A n c,.int .i64 dir,.bool left.start,.bool left.fin,.slice L1 a1 x1,.slice L2 a2 x2,.slice L3 a3 x3,.int .i64 left.ag,.bool right.start,.bool right.fin,.slice R1 b1 y1,.slice R2 b2 y2,.slice R3 b3 y3,.int .i64 right.ag] 97));have c1:(w.alloc (.cells #[.int .i64 4,.string name,.slice A n c,.int .i64 dir,.bool left.start,.bool left.fin,.slice L1 a1 x1,.slice L2 a2 x2,.slice L3 a3 x3,.int .i64 left.ag,.bool right.start,.bool right.fin,.slice R1 b1 y1,.slice R2 b2 y2,.slice R3 b3 y3,.int .i64 right.ag] 97)).cell? ⟨w.heap.size,1,none⟩=some (.string name):=(ai.new _ _ _).cell 1;have hlt:w.heap.size<(w.alloc (.cells #[.int .i64 4,.string name,.slice A n c,.int .i64 dir,.bool left.start,.bool left.fin,.slice L1 a1 x1,.slice L2 a2 x2,.slice L3 a3 x3,.int .i64 left.ag,.bool right.start,.bool right.fin,.slice R1 b1 y1,.slice R2 b2 y2,.slice R3 b3 y3,.int .i64 right.ag] 97)).heap.size:=(by simp);cases hr:jD name
 all_goals
   have HR:=qqh hr
   clear hr
   go_enter Tryz.func62,Tryz.ntmps62
   go_wp2_with fail
   generalize w.alloc (.cells #[.int .i64 4,.string name,.slice A n c,.int .i64 dir,.bool left.start,.bool left.fin,.slice L1 a1 x1,.slice L2 a2 x2,.slice L3 a3 x3,.int .i64 left.ag,.bool right.start,.bool right.fin,.slice R1 b1 y1,.slice R2 b2 y2,.slice R3 b3 y3,.int .i64 right.ag] 97)=W0 at *
   go_region_with (first | (go_at_call 57;refine(iq _).mono ?_;rintro e w' ⟨rfl,rfl⟩) | (go_at_call 56;refine(qf _ name _ HR.out _ (BY (ai.new _ _ _))).mono ?_;rintro e w' ⟨rfl,rfl⟩))
   all_goals
     go_wp2_with fail
     go_ret
     exact⟨rfl,below_drewN (HB.out.alloc HB.out.size _) _⟩
theorem qH (p:aH) (A:Option Addr) (n c:Nat) (L1 L2 L3 R1 R2 R3:Option Addr) (a1 a2 a3 x1 x2 x3 b1 b2 b3 y1 y2 y3:Nat) (w:World) (hs:jz w w.heap.size A n p.set) (hn:n≤maxLen) (l1:bO w w.heap.size L1 a1 p.left.before) (l2:bO w w.heap.size L2 a2 p.left.source) (l3:bO w w.heap.size L3 a3 p.left.after) (zo:a1≤maxLen) (wQ:a2≤maxLen) (zF:a3≤maxLen) (r1:bO w w.heap.size R1 b1 p.right.before) (r2:bO w w.heap.size R2 b2 p.right.source) (r3:bO w w.heap.size R3 b3 p.right.after) (AT:b1≤maxLen) (wP:b2≤maxLen) (Ai:b3≤maxLen)  :
    Calls Tryz.prog 62 #[.agg #[.int .i64 p.kind,.string p.name,.slice A n c,.int .i64 p.dir,.bool p.left.start,.bool p.left.fin,.slice L1 a1 x1,.slice L2 a2 x2,.slice L3 a3 x3,.int .i64 p.left.ag,.bool p.right.start,.bool p.right.fin,.slice R1 b1 y1,.slice R2 b2 y2,.slice R3 b3 y3,.int .i64 p.right.ag]] w fun e w'=>e=.returned (.int .i64 (fG p))∧Below w.heap.size w w':=by
 obtain⟨kind,name,set,dir,left,right⟩:=p;dsimp only at *;unfold fG;dsimp only;by_cases k1:kind=1
 ·subst k1;rw [if_pos rfl];exact LM name set left right dir A n c L1 L2 L3 R1 R2 R3 a1 a2 a3 x1 x2 x3 b1 b2 b3 y1 y2 y3 w hs (by unfold maxLen at hn;omega)
 by_cases k3:kind=3
 ·subst k3;rw [if_neg k1,if_pos rfl];exact Bq name set left right dir A n c L1 L2 L3 R1 R2 R3 a1 a2 a3 x1 x2 x3 b1 b2 b3 y1 y2 y3 w hs (by unfold maxLen at hn;omega)
 by_cases k4:kind=4
 ·subst k4;rw [if_neg k1,if_neg k3,if_pos rfl];exact I7 name left right dir A n c L1 L2 L3 R1 R2 R3 a1 a2 a3 x1 x2 x3 b1 b2 b3 y1 y2 y3 w
 by_cases k2:kind=2
 ·subst k2;rw [if_neg k1,if_neg k3,if_neg k4,if_pos rfl];by_cases hd:dir<1∨3<dir
  ·have e:cP dir left right=1:=if_pos hd;rw [e];exact KW name left right dir A n c L1 L2 L3 R1 R2 R3 a1 a2 a3 x1 x2 x3 b1 b2 b3 y1 y2 y3 w hd
  rcases (show dir=1∨dir=2∨dir=3 by omega)with rfl | rfl | rfl;exact EZ name left right A n c L1 L2 L3 R1 R2 R3 a1 a2 a3 x1 x2 x3 b1 b2 b3 y1 y2 y3 w l1 l2 l3 zo wQ zF r1 r2 r3 AT wP Ai;exact DN name left right A n c L1 L2 L3 R1 R2 R3 a1 a2 a3 x1 x2 x3 b1 b2 b3 y1 y2 y3 w l1 l2 l3 zo wQ zF r1 r2 r3 AT wP Ai;exact EO name left right A n c L1 L2 L3 R1 R2 R3 a1 a2 a3 x1 x2 x3 b1 b2 b3 y1 y2 y3 w l1 l2 l3 zo wQ zF r1 r2 r3 AT wP Ai
 rw [if_neg k1,if_neg k3,if_neg k4,if_neg k2];exact Fp name left right kind dir A n c L1 L2 L3 R1 R2 R3 a1 a2 a3 x1 x2 x3 b1 b2 b3 y1 y2 y3 w k1 k2 k3 k4
def pL (r:Int):Bool:=decide (0≤r) && !decide (r=10)
def eH (L:List Int):Nat→Nat→Nat
  | 0,i=>aN L i
  | f+1,i=>if pk L (aN L i)=35 then eH L f (aB pL L (aN L i))else aN L i
def ay (L:List Int) (i:Nat):Nat:=eH L (L.length+1) i
def jF (r:Int):Bool:=(decide (97≤r) && decide (r≤122)) || decide (r=95)
def AB (r:Int):Bool:=decide (48≤r) && decide (r≤57)
def aZ (L:List Int) (i:Nat):Nat:=if jF (pk L i)=true then aB (fun r=>jF r || AB r) L i else i
def gL (L:List Int) (i:Nat):ByteArray:=runesBytes (aM L i (aZ L i))
def fX (L:List Int) (i:Nat):jN ByteArray:=if ee (gL L i)=true then .ok (gL L i,aZ L i)else .error (7,i)
def kG (r:Int):Bool:=decide (0≤r) && !decide (r=39)
def eu:ByteArray:=⟨#[]⟩
def lH (x:Int):aG:=⟨1,x,[],eu⟩
def fV (L:List Int) (i:Nat):jN (List aG) :=
  if pk L (aB kG L (i+1))=39 then .ok ((aM L (i+1) (aB kG L (i+1))).map lH,aB kG L (i+1)+1)else .error (2,aB kG L (i+1))
def bY (L:List Int) (a:Nat) (out:List aG) (cur:Int):Except (Int × Nat) (Option ((List aG × Int) × Nat)) :=
  if pk L a=124 then (if 0≤cur then .error (5,a)else .ok (some ((out,(out.length:Int)),a+1)))
  else if pk L a=91 then match bE L 20 a with | .error e=>.error e | .ok (s,j)=>.ok (some ((out++[⟨2,0,s,eu⟩],cur),j))
  else if pk L a=36∧jF (pk L (a+1))=true then match fX L (a+1)with | .error e=>.error e | .ok (s,j)=>.ok (some ((out++[⟨3,0,[],s⟩],cur),j))
  else if pk L a=39 then match fV L a with | .error e=>.error e | .ok (l,j)=>.ok (some ((out++l,cur),j))
  else if pk L a=92∨cU (pk L a)=true then match cQ L a with | .error e=>.error e | .ok (x,j)=>if bT x=true then .ok (some ((out++[lH x],cur),j))else .error (3,a)
  else .ok none
def cF (L:List Int):Nat→Nat→List aG→Int→jN (List aG × Int)
  | 0,i,_,_=>.error (2,i)
  | f+1,i,out,cur=>match bY L (ay L i) out cur with
    | .error e=>.error e
    | .ok none=>.ok ((out,cur),ay L i)
    | .ok (some ((o,c),j))=>if 20<o.length then .error (5,ay L i)else cF L f j o c
def cn (L:List Int) (i:Nat):jN (List aG × Int):=cF L (L.length+1) i [] (-1)
def dG (L:List Int) (start:Bool) (a:Nat):jN (List aG × List aG × Int) :=
  match cn L a with
  | .error e=>.error e
  | .ok ((l,c),j)=>
    if pk L j=123 then (if 0≤c then .error (8,a)else match cn L (j+1)with | .error e=>.error e | .ok ((l2,c2),j2)=>.ok ((l,l2,c2),j2))
    else if start=true then .error (2,j)else .ok (([],l,c),j)
def dX (L:List Int) (j:Nat):jN (List aG × Bool) :=
  if pk L j=125 then match cn L (j+1)with
    | .error e=>.error e
    | .ok ((l,c),k)=>if 0≤c then .error (8,j+1)else if pk L k=36 then .ok ((l,true),k+1)else .ok ((l,false),k)
  else .ok (([],false),j)
def dB (L:List Int) (i:Nat):jN bQ :=
  match dG L (decide (pk L (ay L i)=94)) (if pk L (ay L i)=94 then ay L i+1 else ay L i)with
  | .error e=>.error e
  | .ok ((b,s,c),j)=>match dX L j with
    | .error e=>.error e
    | .ok ((a,fin),k)=>.ok (⟨decide (pk L (ay L i)=94),fin,b,s,a,c⟩,ay L k)
def eG (L:List Int) (i:Nat):jN Int :=
  if pk L i=62 then .ok (1,i+1)else if pk L i=60∧pk L (i+1)=62 then .ok (3,i+2)
  else match aQ L i 60 with | .error e=>.error e | .ok j=>.ok (2,j)
def cM:bQ:=⟨false,false,[],[],[],0⟩
def iK (L:List Int) (i:Nat):jN aH :=
  match dB L i with
  | .error e=>.error e
  | .ok (l,j)=>match eG L j with
    | .error e=>.error e
    | .ok (d,k)=>match dB L k with
      | .error e=>.error e
      | .ok (r,m)=>if fG ⟨2,eu,[],d,l,r⟩≠0 then .error (fG ⟨2,eu,[],d,l,r⟩,i)else .ok (⟨2,eu,[],d,l,r⟩,m)
def iP (L:List Int) (i:Nat):jN aH :=
  match aQ L (i+1) 58 with
  | .error e=>.error e
  | .ok j=>
    if pk L (ay L j)=91 then match bE L 20 (ay L j)with | .error e=>.error e | .ok (s,k)=>.ok (⟨3,eu,s,0,cM,cM⟩,k)
    else if jD (gL L (ay L j))=true then .ok (⟨4,gL L (ay L j),[],0,cM,cM⟩,aZ L (ay L j))else .error (7,ay L j)
def mY (L:List Int) (i:Nat):jN aH :=
  match fX L (i+1)with
  | .error e=>.error e
  | .ok (s,j)=>match aQ L (ay L j) 61 with
    | .error e=>.error e
    | .ok k=>match bE L 20 (ay L k)with | .error e=>.error e | .ok (t,m)=>.ok (⟨1,s,t,0,cM,cM⟩,m)
def iQ (L:List Int) (i:Nat):jN aH :=
  if pk L i=58 then iP L i
  else if pk L i=36∧pk L (ay L (aZ L (i+1)))=61 then mY L i
  else iK L i
def fS (L:List Int):Nat→Nat→List aH→Except (Int × Nat) (List aH)
  | 0,i,_=>.error (2,i)
  | f+1,i,l=>
    if pk L (ay L i)<0 then .ok l
    else if l.length=200 then .error (5,ay L i)
    else match iQ L (ay L i)with
      | .error e=>.error e
      | .ok (p,j)=>match aQ L (ay L j) 59 with
        | .error e=>.error e
        | .ok k=>fS L f k (l++[p])
def gU (L:List Int):List aH × (Int × Int) :=
  if 16000<L.length then ([],(4,0))
  else match fS L (L.length+1) 0 []with
    | .error (e,p)=>([],(e,(p:Int)))
    | .ok l=>(l,(0,0))
theorem Gn (L:List Int):∀ f i,i≤eH L f i:=by
 intro f;induction f with
 | zero=>exact fun i=>dY L i
 | succ f ih=>
  intro i;rw [eH];split;exact Nat.le_trans (dY L i) (Nat.le_trans (eI _ _ _) (ih _));exact dY L i
theorem qo {L:List Int} {i:Nat} (h:i≤L.length):aN L i≤L.length:=(gV h).2
theorem Gl (L:List Int):∀ f i,i≤L.length→eH L f i≤L.length:=by
 intro f;induction f with
 | zero=>exact fun i h=>qo h
 | succ f ih=>
  intro i h;rw [eH];split;exact ih _ (gV (qo h)).2;exact qo h
theorem de (L:List Int) (i:Nat):i≤ay L i:=Gn L _ i
theorem nJ {L:List Int} {i:Nat} (h:i≤L.length):ay L i≤L.length:=Gl L _ i h
theorem vn (L:List Int) (i:Nat):i≤aZ L i:=by
 unfold aZ;split;exact eI _ _ _;exact Nat.le_refl _
theorem kj {L:List Int} {i:Nat} (h:i≤L.length):aZ L i≤L.length:=by
 unfold aZ;split;exact(gV h).2;exact h
theorem j9 {L:List Int} {i j:Nat} {s:ByteArray} (h:fX L i=.ok (s,j)):i<j∧ee s=true∧s=gL L i∧j=aZ L i:=by
 unfold fX at h;split at h
 ·rename_i hn;injection h with h;injection h with h1 h2;subst h1 h2;refine⟨?_,hn,rfl,rfl⟩;rcases Nat.lt_or_ge i (aZ L i)with hl | hl;exact hl;have he:aZ L i=i:=Nat.le_antisymm hl (vn L i);have ht:gL L i=runesBytes []:=by
   unfold gL aM;rw [he,Nat.sub_self];rfl
  rw [ht]at hn;exact absurd hn (by unfold ee;simp [show(runesBytes []).size=0 from rfl])
 cases h
theorem vt {L:List Int} {i j:Nat} {l:List aG} (h:fV L i=.ok (l,j)):i+1<j∧j≤L.length:=by
 unfold fV at h;split at h
 ·rename_i hn;injection h with h;injection h with h1 h2;have hlt:=bB (L:=L) (i:=aB kG L (i+1)) (by omega);have:=eI kG L (i+1);omega
 cases h
theorem wo {L:List Int} (hL:b8 L) {a j:Nat} {out o:List aG} {cur c:Int} (h:bY L a out cur=.ok (some ((o,c),j))):a<j∧out.length≤o.length:=by
 unfold bY at h;split at h
 ·split at h
  ·cases h
  injection h with h;injection h with h;injection h with h1 h2;injection h1 with h1 h3;subst h1 h2;exact⟨by omega,Nat.le_refl _⟩
 split at h
 ·split at h
  ·cases h
  rename_i s j' hs;injection h with h;injection h with h;injection h with h1 h2;injection h1 with h1 h3;subst h1 h2;exact⟨(kR hL 20 _ _ _ hs).1,by simp⟩
 split at h
 ·split at h
  ·cases h
  rename_i s j' hs;injection h with h;injection h with h;injection h with h1 h2;injection h1 with h1 h3;subst h1 h2;have:=(j9 hs).1;exact⟨by omega,by simp⟩
 split at h
 ·split at h
  ·cases h
  rename_i s j' hs;injection h with h;injection h with h;injection h with h1 h2;injection h1 with h1 h3;subst h1 h2;have:=(vt hs).1;exact⟨by omega,by simp⟩
 split at h
 ·split at h
  ·cases h
  rename_i x j' hs;split at h
  ·injection h with h;injection h with h;injection h with h1 h2;injection h1 with h1 h3;subst h1 h2;exact⟨(mP hL hs).1,by simp⟩
  cases h
 injection h with h;cases h
structure GG (p:Nat) (L L':List Int):Prop where
  here:∀ k,k<L.length→L'[p+k]? = L[k]?
  stop:pk L' (p+L.length)=10∨pk L' (p+L.length)=32∨pk L' (p+L.length) = -1
def Ht {α:Type} (p:Nat) (L:List Int) (r r':jN α):Prop:=∀ v j,r=.ok (v,j)→j≤L.length∧r'=.ok (v,p+j)
section
variable {p : Nat} {L L' : List Int} (E : GG p L L')
include E
theorem GG.pk {k:Nat} (hk:k<L.length):pk L' (p+k)=pk L k:=by
 unfold Go.Proofs.YthgkedoildcbcaaGreatDoor.pk;rw [E.here k hk]
theorem GG.is {k:Nat} (hk:k≤L.length) {r:Int} (h1:r≠10) (h2:r ≠ -1) (h3:r≠32):Go.Proofs.YthgkedoildcbcaaGreatDoor.pk L' (p+k)=r↔Go.Proofs.YthgkedoildcbcaaGreatDoor.pk L k=r:=by
 rcases Nat.lt_or_ge k L.length with hl | hl
 ·rw [E.pk hl]
 have hk:k=L.length:=(by omega);subst hk;rw [pz (Nat.le_refl _)];rcases E.stop with e | e | e <;> rw [e] <;> constructor <;> intro h' <;> omega
theorem GG.lt {k:Nat} (hk:k<L.length):p+k<L'.length:=by
 have:=E.here k hk;rw [List.getElem?_eq_getElem hk]at this;exact(List.getElem?_eq_some_iff.1 this).1
theorem GG.len:L.length≤L'.length:=by
 rcases Nat.eq_zero_or_pos L.length with h | h;omega;have:=E.lt (k:=L.length - 1) (by omega);omega
theorem GG.run {q:Int→Bool}:∀ (d i:Nat),L.length - i=d→i≤L.length→(aB q L i<L.length∨q (Go.Proofs.YthgkedoildcbcaaGreatDoor.pk L' (p+L.length))=false)→aB q L' (p+i)=p+aB q L i:=by
 intro d;induction d with
 | zero=>
  intro i hd hi hq;have e:i=L.length:=(by omega);subst e;have e2:aB q L L.length=L.length:=cI (fun h=>absurd h (Nat.lt_irrefl _));rw [e2]at hq ⊢;rcases hq with hq | hq;omega;exact cI (fun _=>hq)
 | succ d ih=>
  intro i hd hi hq;have hl:i<L.length:=(by omega);cases hv:q (Go.Proofs.YthgkedoildcbcaaGreatDoor.pk L i)with
  | true=>
   rw [dK hl hv]at hq ⊢;rw [dK (E.lt hl) (by rw [E.pk hl];exact hv),Nat.add_assoc];exact ih (i+1) (by omega) (by omega) hq
  | false=>rw [cI (fun _=>hv),cI (fun _=>by rw [E.pk hl];exact hv)]
theorem GG.PV {q:Int→Bool} (h1:q 10=false) (h2:q 32=false) (h3:q (-1)=false) {i:Nat} (hi:i≤L.length):aB q L' (p+i)=p+aB q L i:=by
 refine E.run _ i rfl hi (.inr ?_);rcases E.stop with e | e | e <;> rw [e] <;> assumption
theorem GG.skip {i:Nat} (hi:i≤L.length) (h:aN L i<L.length):aN L' (p+i)=p+aN L i:=E.run _ i rfl hi (.inl h)
theorem GG.text {i j:Nat} (hj:j≤L.length):aM L' (p+i) (p+j)=aM L i j:=by
 unfold aM;rw [show p+j - (p+i)=j - i by omega];apply List.ext_getElem?;intro k;rcases Nat.lt_or_ge k (j - i)with hk | hk
 ·rw [List.getElem?_take_of_lt hk,List.getElem?_take_of_lt hk,List.getElem?_drop,List.getElem?_drop,Nat.add_assoc];exact E.here _ (by omega)
 rw [List.getElem?_take_eq_none hk,List.getElem?_take_eq_none hk]
theorem jb {i j:Nat} {r:Int} (h:aQ L i r=.ok j) (hr:r ≠ -1):j≤L.length∧aQ L' (p+i) r=.ok (p+j):=by
 obtain⟨rfl,hp⟩:=fF h;have hl:i<L.length:=bB (by rw [hp];exact hr);refine⟨hl,?_⟩;rw [JS (by rw [E.pk hl];exact hp)];rfl
theorem Oz (i:Nat):Ht p L (ki L i) (ki L' (p+i)):=by
 intro v j h;unfold ki at h ⊢;cases h1:aQ L (i+1) 123 with
 | error e=>rw [h1]at h;cases h
 | ok a=>
  obtain⟨ha,e1⟩:=jb E h1 (by decide);rw [h1]at h;rw [show p+i+1=p+(i+1) from rfl,e1];simp only at h ⊢;rw [E.PV rfl rfl rfl ha,show p+aB eJ L a - (p+a)=aB eJ L a - a by omega];by_cases hn:aB eJ L a - a<1∨6<aB eJ L a - a
  ·rw [if_pos hn]at h;cases h
  rw [if_neg hn]at h ⊢;cases h2:aQ L (aB eJ L a) 125 with
  | error e=>rw [h2]at h;cases h
  | ok b=>
   obtain⟨hb,e2⟩:=jb E h2 (by decide);rw [h2]at h;rw [e2];simp only at h ⊢;rw [E.text (gV ha).2];by_cases hm:1114111<dW (aM L a (aB eJ L a))
   ·rw [if_pos hm]at h;cases h
   rw [if_neg hm]at h ⊢;injection h with h;injection h with h3 h4;subst h3 h4;exact⟨hb,rfl⟩
theorem vQ (i:Nat):Ht p L (cQ L i) (cQ L' (p+i)):=by
 intro v j h;unfold cQ at h ⊢;by_cases hp:cU (Go.Proofs.YthgkedoildcbcaaGreatDoor.pk L i)=true
 ·have hl:i<L.length:=bB (fun e=>by rw [e]at hp;exact absurd hp (by decide));rw [if_pos hp]at h;rw [E.pk hl,if_pos hp];injection h with h;injection h with h3 h4;subst h3 h4;exact⟨hl,rfl⟩
 rw [if_neg hp]at h;by_cases wO:Go.Proofs.YthgkedoildcbcaaGreatDoor.pk L i≠92
 ·rw [if_pos wO]at h;cases h
 rw [if_neg wO]at h;have hl:i<L.length:=bB (by omega);rw [E.pk hl,if_neg hp,if_neg wO];have jB:i+1<L.length:=bB (fun e=>by rw [e]at h;simp at h);rw [show p+i+1=p+(i+1) from rfl,E.pk jB];by_cases c1:Go.Proofs.YthgkedoildcbcaaGreatDoor.pk L (i+1)=110
 ·rw [if_pos c1]at h ⊢;injection h with h;injection h with h3 h4;subst h3 h4;exact⟨jB,rfl⟩
 rw [if_neg c1]at h ⊢;by_cases c2:Go.Proofs.YthgkedoildcbcaaGreatDoor.pk L (i+1)=116
 ·rw [if_pos c2]at h ⊢;injection h with h;injection h with h3 h4;subst h3 h4;exact⟨jB,rfl⟩
 rw [if_neg c2]at h ⊢;by_cases c3:Go.Proofs.YthgkedoildcbcaaGreatDoor.pk L (i+1)=117
 ·rw [if_pos c3]at h ⊢;exact Oz E _ _ _ h
 rw [if_neg c3]at h ⊢;by_cases c4:Go.Proofs.YthgkedoildcbcaaGreatDoor.pk L (i+1)<0∨EF (Go.Proofs.YthgkedoildcbcaaGreatDoor.pk L (i+1))=true
 ·rw [if_pos c4]at h;cases h
 rw [if_neg c4]at h ⊢;injection h with h;injection h with h3 h4;subst h3 h4;exact⟨jB,rfl⟩
theorem LN (i:Nat):Ht p L (i6 L i) (i6 L' (p+i)):=by
 intro v j h;unfold i6 at h ⊢;cases h1:cQ L i with
 | error e=>rw [h1]at h;cases h
 | ok q=>
  obtain⟨low,a⟩:=q;obtain⟨ha,e1⟩:=vQ E _ _ _ h1;rw [h1]at h;rw [e1];simp only at h ⊢;have c1:(Go.Proofs.YthgkedoildcbcaaGreatDoor.pk L' (p+a)=45∧Go.Proofs.YthgkedoildcbcaaGreatDoor.pk L' (p+a+1)≠91)↔(Go.Proofs.YthgkedoildcbcaaGreatDoor.pk L a=45∧Go.Proofs.YthgkedoildcbcaaGreatDoor.pk L (a+1)≠91):=by
   rw [E.is ha (by decide) (by decide) (by decide)];refine and_congr_right (fun Qo=>?_);have hl:a<L.length:=bB (by omega);exact not_congr (E.is (k:=a+1) hl (by decide) (by decide) (by decide))
  by_cases hc:Go.Proofs.YthgkedoildcbcaaGreatDoor.pk L a=45∧Go.Proofs.YthgkedoildcbcaaGreatDoor.pk L (a+1)≠91
  ·rw [if_pos hc]at h;rw [if_pos (c1.2 hc)];cases h2:cQ L (a+1)with
   | error e=>rw [h2]at h;cases h
   | ok q=>
    obtain⟨high,b⟩:=q;obtain⟨hb,e2⟩:=vQ E _ _ _ h2;rw [h2]at h;rw [show p+a+1=p+(a+1) from rfl,e2];simp only at h ⊢;by_cases hh:high<low
    ·rw [if_pos hh]at h;cases h
    rw [if_neg hh]at h ⊢;injection h with h;injection h with h3 h4;subst h3 h4;exact⟨hb,rfl⟩
  rw [if_neg hc]at h;rw [if_neg (fun x=>hc (c1.1 x))];injection h with h;injection h with h3 h4;subst h3 h4;exact⟨ha,rfl⟩
theorem GQ {i:Nat} (hi:i+2≤L.length):Ht p L (eE L i) (eE L' (p+i)):=by
 intro v j h;unfold eE at h ⊢;rw [show p+i+2=p+(i+2) from rfl,E.PV rfl rfl rfl hi,E.text (gV hi).2];cases h0:gz (aM L (i+2) (aB cU L (i+2)))with
 | none=>rw [h0]at h;cases h
 | some s=>
  rw [h0]at h;simp only at h ⊢;cases h1:aQ L (aB cU L (i+2)) 58 with
  | error e=>rw [h1]at h;cases h
  | ok a=>
   obtain⟨ha,e1⟩:=jb E h1 (by decide);rw [h1]at h;rw [e1];simp only at h ⊢;cases h2:aQ L a 93 with
   | error e=>rw [h2]at h;cases h
   | ok b=>
    obtain⟨hb,e2⟩:=jb E h2 (by decide);rw [h2]at h;rw [e2];simp only at h ⊢;injection h with h;injection h with h3 h4;subst h3 h4;exact⟨hb,rfl⟩
def QC (p:Nat) (L:List Int) (inner inner':Nat→jN af):Prop:=∀ i s j,inner i=.ok (s,j)→i<j∧j≤L.length∧inner' (p+i)=.ok (s,p+j)
theorem JG {inner inner':Nat→jN af} (hI:QC p L inner inner') (i:Nat) (s:af) (j:Nat) (h:dh inner L i=.ok (s,j)):i<L.length∧j≤L.length∧dh inner' L' (p+i)=.ok (s,p+j):=by
 have hl:i<L.length:=by
  refine bB (fun e=>?_);unfold dh at h;rw [if_neg (fun x=>by have:=x.1;omega),if_neg (by omega),if_neg (by omega)]at h;unfold i6 cQ at h;rw [e]at h;simp [cU]at h
 refine⟨hl,?_⟩;unfold dh at h ⊢;rw [E.pk hl,show p+i+1=p+(i+1) from rfl];have c1:=E.is (k:=i+1) hl (r:=58) (by decide) (by decide) (by decide);by_cases hc:Go.Proofs.YthgkedoildcbcaaGreatDoor.pk L i=91∧Go.Proofs.YthgkedoildcbcaaGreatDoor.pk L (i+1)=58
 ·rw [if_pos hc]at h;rw [if_pos ⟨hc.1,c1.2 hc.2⟩];have jB:i+1<L.length:=bB (by omega);exact GQ E jB _ _ h
 rw [if_neg hc]at h;rw [if_neg (fun x=>hc ⟨x.1,c1.1 x.2⟩)];by_cases jZ:Go.Proofs.YthgkedoildcbcaaGreatDoor.pk L i=91
 ·rw [if_pos jZ]at h ⊢;exact(hI _ _ _ h).2
 rw [if_neg jZ]at h ⊢;by_cases OM:Go.Proofs.YthgkedoildcbcaaGreatDoor.pk L i=38∨Go.Proofs.YthgkedoildcbcaaGreatDoor.pk L i=45
 ·rw [if_pos OM]at h ⊢;obtain⟨g1,g2,g3⟩:=hI _ _ _ h;rw [E.skip (i:=i+1) hl (by omega)];exact⟨g2,g3⟩
 rw [if_neg OM]at h ⊢;cases h1:i6 L i with
 | error e=>rw [h1]at h;cases h
 | ok q=>
  obtain⟨x,a⟩:=q;obtain⟨ha,e1⟩:=LN E _ _ _ h1;rw [h1]at h;rw [e1];simp only at h ⊢;injection h with h;injection h with h3 h4;subst h3 h4;exact⟨ha,rfl⟩
theorem Hh {inner inner':Nat→jN af} (hI:QC p L inner inner'):∀ (f f' i:Nat) (cur s:af) (j:Nat),f≤f'→i≤L.length→dL inner L f i cur=.ok (s,j)→j≤L.length∧dL inner' L' f' (p+i) cur=.ok (s,p+j):=by
 intro f;induction f with
 | zero=>intro f' i cur s j _ _ h;unfold dL at h;cases h
 | succ f ih=>
  intro f' i cur s j hf hi h;obtain⟨f',rfl⟩:∃ g,f'=g+1:=⟨f' - 1,by omega⟩;rw [dL]at h ⊢;by_cases MV:Go.Proofs.YthgkedoildcbcaaGreatDoor.pk L (aN L i)=93
  ·have hl:aN L i<L.length:=bB (by omega);rw [if_pos MV]at h;rw [E.skip hi hl,E.pk hl,if_pos MV];injection h with h;injection h with h3 h4;subst h3 h4;exact⟨hl,rfl⟩
  rw [if_neg MV]at h;cases h1:dh inner L (aN L i)with
  | error e=>rw [h1]at h;cases h
  | ok q=>
   obtain⟨t,a⟩:=q;obtain⟨hl,ha,e1⟩:=JG E hI _ _ _ h1;rw [h1]at h;rw [E.skip hi hl,E.pk hl,if_neg MV,e1];simp only at h ⊢;by_cases hw:(mJ (tJ (Go.Proofs.YthgkedoildcbcaaGreatDoor.pk L (aN L i))) cur t).2≠0
   ·rw [if_pos hw]at h;cases h
   rw [if_neg hw]at h ⊢;exact ih f' a _ _ _ (by omega) ha h
theorem zR (hL:b8 L):∀ n,QC p L (bE L n) (bE L' n):=by
 intro n;induction n with
 | zero=>intro i s j h;unfold bE at h;cases h
 | succ n ih=>
  intro i s j h;refine⟨(kR hL (n+1) i s j h).1,?_⟩;rw [bE]at h ⊢;cases h1:aQ L i 91 with
  | error e=>rw [h1]at h;cases h
  | ok a=>
   obtain⟨ha,e1⟩:=jb E h1 (by decide);rw [h1]at h;rw [e1];simp only at h ⊢;have c1:=E.is ha (r:=94) (by decide) (by decide) (by decide);have hst:(if Go.Proofs.YthgkedoildcbcaaGreatDoor.pk L' (p+a)=94 then p+a+1 else p+a)=p+(if Go.Proofs.YthgkedoildcbcaaGreatDoor.pk L a=94 then a+1 else a):=by
    by_cases ni:Go.Proofs.YthgkedoildcbcaaGreatDoor.pk L a=94
    ·rw [if_pos ni,if_pos (c1.2 ni)];rfl
    rw [if_neg ni,if_neg (fun x=>ni (c1.1 x))]
   rw [hst];have Qd:(if Go.Proofs.YthgkedoildcbcaaGreatDoor.pk L a=94 then a+1 else a)≤L.length:=by
    split
    ·rename_i ni;exact bB (by omega)
    exact ha
   cases h2:dL (bE L n) L (L.length+1) (if Go.Proofs.YthgkedoildcbcaaGreatDoor.pk L a=94 then a+1 else a) []with
   | error e=>rw [h2]at h;cases h
   | ok q=>
    obtain⟨cur,k⟩:=q;obtain⟨hk,e2⟩:=Hh E ih _ (L'.length+1) _ _ _ _ (by have:=E.len;omega) Qd h2;rw [h2]at h;rw [e2];simp only at h ⊢;by_cases ni:Go.Proofs.YthgkedoildcbcaaGreatDoor.pk L a=94
    ·rw [if_pos ni]at h;rw [if_pos (c1.2 ni)];by_cases hw:(mJ 94 cur []).2≠0
     ·rw [if_pos hw]at h;cases h
     rw [if_neg hw]at h ⊢;injection h with h;injection h with h3 h4;subst h3 h4;exact⟨hk,rfl⟩
    rw [if_neg ni]at h;rw [if_neg (fun x=>ni (c1.1 x))];injection h with h;injection h with h3 h4;subst h3 h4;exact⟨hk,rfl⟩
end
theorem xA (L:List Int):∀ f g i,L.length<f+i→L.length<g+i→eH L f i=eH L g i:=by
 have key:∀ g i,L.length<i→eH L g i=aN L i:=by
  intro g i h;cases g with
  | zero=>rfl
  | succ g=>
   rw [eH,if_neg];have e:aN L i=i:=cI (fun h2=>absurd h2 (by omega));rw [e,pz (by omega)];decide
 intro f;induction f with
 | zero=>intro g i h1 h2;rw [key 0 i (by omega),key g i (by omega)]
 | succ f ih=>
  intro g i h1 h2;cases g with
  | zero=>rw [key 0 i (by omega),key (f+1) i (by omega)]
  | succ g=>
   rw [eH,eH];by_cases rF:pk L (aN L i)=35
   ·rw [if_pos rF,if_pos rF];have hl:aN L i<L.length:=bB (by omega);have h3:=dY L i;have h4:aN L i+1≤aB pL L (aN L i):=(by rw [dK hl (by rw [rF];rfl)];exact eI _ _ _);exact ih g _ (by omega) (by omega)
   rw [if_neg rF,if_neg rF]
theorem K5 {L:List Int} {k:Nat} (rF:pk L k=35):k<L.length∧k+1≤aB pL L k:=by
 have hl:k<L.length:=bB (by omega);exact⟨hl,by rw [dK hl (by rw [rF];rfl)];exact eI _ _ _⟩
theorem nH (L:List Int) (i:Nat):ay L i=if pk L (aN L i)=35 then ay L (aB pL L (aN L i))else aN L i:=by
 show eH L (L.length+1) i=_;rw [eH];by_cases rF:pk L (aN L i)=35
 ·rw [if_pos rF,if_pos rF];have:=(K5 rF).2;exact xA L _ _ _ (by omega) (by omega)
 rw [if_neg rF,if_neg rF]
theorem Ja {L:List Int} {i:Nat} (h1:pO (pk L i)=false) (h2:pk L i≠35):ay L i=i:=by
 have e:aN L i=i:=cI (fun _=>h1);rw [nH,e,if_neg h2]
theorem LA {L:List Int} (hL:b8 L):∀ (f i:Nat) (out:List aG) (cur:Int) (v:List aG × Int) (j:Nat),cF L f i out cur=.ok (v,j)→ay L i≤j:=by
 intro f;induction f with
 | zero=>intro i out cur v j h;rw [cF]at h;cases h
 | succ f ih=>
  intro i out cur v j h;rw [cF]at h;cases he:bY L (ay L i) out cur with
  | error e=>rw [he]at h;cases h
  | ok q=>
   rw [he]at h;cases q with
   | none=>simp only at h;injection h with h;injection h with h1 h2;omega
   | some q=>
    obtain⟨⟨o,c⟩,k⟩:=q;simp only at h;by_cases h20:20<o.length
    ·rw [if_pos h20]at h;cases h
    rw [if_neg h20]at h;have h1:=(wo hL he).1;have h2:=ih _ _ _ _ _ h;have h3:=de L k;omega
section
variable {p : Nat} {L L' : List Int} (E : GG p L L')
include E
theorem fN:∀ (d i:Nat),L.length - i=d→i≤L.length→(ay L i<L.length∨pk L' (p+L.length) = -1)→ay L' (p+i)=p+ay L i:=by
 intro d;induction d using Nat.strongRecOn with
 | _ d ih=>
  intro i hd hi hq;rw [nH L i]at hq;rw [nH L i,nH L' (p+i)];by_cases rF:pk L (aN L i)=35
  ·obtain⟨hl,hm⟩:=K5 rF;rw [if_pos rF]at hq ⊢;rw [E.skip hi hl,E.pk hl,if_pos rF];have h1:=dY L i;have h2:aB pL L (aN L i)≤L.length:=(gV (Nat.le_of_lt hl)).2;have h3:=de L (aB pL L (aN L i));rw [E.run _ _ rfl (Nat.le_of_lt hl) (by rcases hq with hq | hq;exact .inl (by omega);exact .inr (by rw [hq];rfl))];exact ih _ (by omega) _ rfl h2 hq
  rw [if_neg rF]at hq ⊢;have hs:aN L i≤L.length:=qo hi;have e:aN L' (p+i)=p+aN L i:=E.run _ i rfl hi (by rcases hq with hq | hq;exact .inl hq;exact .inr (by rw [hq];rfl));rw [e,if_neg];rcases Nat.lt_or_ge (aN L i) L.length with hl | hl
  ·rw [E.pk hl];exact rF
  rcases hq with hq | hq;omega;rw [show aN L i=L.length by omega,hq];decide
theorem i4 {i:Nat} (hi:i≤L.length):aZ L' (p+i)=p+aZ L i:=by
 unfold aZ;rcases Nat.lt_or_ge i L.length with hl | hl
 ·rw [E.pk hl];split;exact E.PV (by decide) (by decide) (by decide) hi;rfl
 have e:i=L.length:=(by omega);subst e;rw [pz (Nat.le_refl _),if_neg (by decide:¬ jF (-1)=true),if_neg];rcases E.stop with e | e | e <;> rw [e] <;> decide
theorem yF {i:Nat} (hi:i≤L.length):gL L' (p+i)=gL L i:=by
 unfold gL;rw [i4 E hi,E.text (kj hi)]
theorem C1 {i:Nat} (hi:i≤L.length):Ht p L (fX L i) (fX L' (p+i)):=by
 intro v j h;have hj:=(j9 h).2.2.2;unfold fX at h ⊢;rw [yF E hi,i4 E hi];split at h
 ·rename_i hn;rw [if_pos hn];injection h with h;injection h with h3 h4;subst h3 h4;exact⟨kj hi,rfl⟩
 cases h
theorem EX {i:Nat} (hi:i<L.length):Ht p L (fV L i) (fV L' (p+i)):=by
 intro v j h;have hj:=(vt h).2;refine⟨hj,?_⟩;unfold fV at h ⊢;by_cases xq:pk L (aB kG L (i+1))=39
 ·have hl:aB kG L (i+1)<L.length:=bB (by omega);rw [if_pos xq]at h;rw [show p+i+1=p+(i+1) from rfl,E.run _ (i+1) rfl hi (.inl hl),E.pk hl,if_pos xq,E.text (Nat.le_of_lt hl)];injection h with h;injection h with h3 h4;subst h3 h4;rfl
 rw [if_neg xq]at h;cases h
theorem FF {k:Nat} (hk:k≤L.length):jF (pk L' (p+k))=jF (pk L k):=by
 rcases Nat.lt_or_ge k L.length with hl | hl
 ·rw [E.pk hl]
 have e:k=L.length:=(by omega);subst e;rw [pz (Nat.le_refl _)];rcases E.stop with e | e | e <;> rw [e] <;> decide
theorem xT {a:Nat} (ha:a<L.length) {out:List aG} {cur:Int} (h:bY L a out cur=.ok none):bY L' (p+a) out cur=.ok none:=by
 unfold bY at h ⊢;rw [E.pk ha,show p+a+1=p+(a+1) from rfl,FF E ha];by_cases tH:pk L a=124
 ·rw [if_pos tH]at h;split at h <;> first | cases h | (injection h with h;cases h)
 rw [if_neg tH]at h ⊢;by_cases jZ:pk L a=91
 ·rw [if_pos jZ]at h;split at h <;> first | cases h | (injection h with h;cases h)
 rw [if_neg jZ]at h ⊢;by_cases kI:pk L a=36∧jF (pk L (a+1))=true
 ·rw [if_pos kI]at h;split at h <;> first | cases h | (injection h with h;cases h)
 rw [if_neg kI]at h ⊢;by_cases xq:pk L a=39
 ·rw [if_pos xq]at h;split at h <;> first | cases h | (injection h with h;cases h)
 rw [if_neg xq]at h ⊢;by_cases wO:pk L a=92∨cU (pk L a)=true
 ·rw [if_pos wO]at h;split at h
  ·cases h
  split at h <;> first | cases h | (injection h with h;cases h)
 rw [if_neg wO]
theorem J6 (hL:b8 L) {a j:Nat} {out o:List aG} {cur c:Int} (h:bY L a out cur=.ok (some ((o,c),j))):a<j∧j≤L.length∧bY L' (p+a) out cur=.ok (some ((o,c),p+j)):=by
 have haj:=(wo hL h).1;have ha:a<L.length:=by
  refine bB (fun e=>?_);unfold bY at h;rw [e]at h;simp [cU]at h
 refine⟨haj,?_⟩;unfold bY at h ⊢;rw [E.pk ha,show p+a+1=p+(a+1) from rfl,FF E ha];by_cases tH:pk L a=124
 ·rw [if_pos tH]at h ⊢;by_cases hc:0≤cur
  ·rw [if_pos hc]at h;cases h
  rw [if_neg hc]at h ⊢;injection h with h;injection h with h;injection h with h1 h2;injection h1 with h1 h3;subst h1 h2 h3;exact⟨ha,rfl⟩
 rw [if_neg tH]at h ⊢;by_cases jZ:pk L a=91
 ·rw [if_pos jZ]at h ⊢;cases hs:bE L 20 a with
  | error e=>rw [hs]at h;cases h
  | ok q=>
   obtain⟨s,k⟩:=q;obtain⟨_,hk,e1⟩:=zR E hL 20 _ _ _ hs;rw [hs]at h;rw [e1];simp only at h ⊢;injection h with h;injection h with h;injection h with h1 h2;injection h1 with h1 h3;subst h1 h2 h3;exact⟨hk,rfl⟩
 rw [if_neg jZ]at h ⊢;by_cases kI:pk L a=36∧jF (pk L (a+1))=true
 ·rw [if_pos kI]at h ⊢;cases hs:fX L (a+1)with
  | error e=>rw [hs]at h;cases h
  | ok q=>
   obtain⟨s,k⟩:=q;obtain⟨hk,e1⟩:=C1 E ha _ _ hs;rw [hs]at h;rw [e1];simp only at h ⊢;injection h with h;injection h with h;injection h with h1 h2;injection h1 with h1 h3;subst h1 h2 h3;exact⟨hk,rfl⟩
 rw [if_neg kI]at h ⊢;by_cases xq:pk L a=39
 ·rw [if_pos xq]at h ⊢;cases hs:fV L a with
  | error e=>rw [hs]at h;cases h
  | ok q=>
   obtain⟨s,k⟩:=q;obtain⟨hk,e1⟩:=EX E ha _ _ hs;rw [hs]at h;rw [e1];simp only at h ⊢;injection h with h;injection h with h;injection h with h1 h2;injection h1 with h1 h3;subst h1 h2 h3;exact⟨hk,rfl⟩
 rw [if_neg xq]at h ⊢;by_cases wO:pk L a=92∨cU (pk L a)=true
 ·rw [if_pos wO]at h ⊢;cases hs:cQ L a with
  | error e=>rw [hs]at h;cases h
  | ok q=>
   obtain⟨x,k⟩:=q;obtain⟨hk,e1⟩:=vQ E _ _ _ hs;rw [hs]at h;rw [e1];simp only at h ⊢;by_cases hr:bT x=true
   ·rw [if_pos hr]at h ⊢;injection h with h;injection h with h;injection h with h1 h2;injection h1 with h1 h3;subst h1 h2 h3;exact⟨hk,rfl⟩
   rw [if_neg hr]at h;cases h
 rw [if_neg wO]at h;injection h with h;cases h
theorem GN (hL:b8 L):∀ (f f' i:Nat) (out:List aG) (cur:Int) (v:List aG × Int) (j:Nat),f≤f'→i≤L.length→cF L f i out cur=.ok (v,j)→i≤j∧j≤L.length∧(j<L.length→cF L' f' (p+i) out cur=.ok (v,p+j)):=by
 intro f;induction f with
 | zero=>intro f' i out cur v j _ _ h;rw [cF]at h;cases h
 | succ f ih=>
  intro f' i out cur v j hf hi h;obtain⟨f',rfl⟩:∃ g,f'=g+1:=⟨f' - 1,by omega⟩;have h0:=de L i;have h1:=nJ hi;rw [cF]at h;cases he:bY L (ay L i) out cur with
  | error e=>rw [he]at h;cases h
  | ok q=>
   rw [he]at h;cases q with
   | none=>
    simp only at h;injection h with h;injection h with h3 h4;subst h3 h4;exact⟨h0,h1,fun hj=>by rw [cF,fN E _ i rfl hi (.inl hj),xT E hj he]⟩
   | some q=>
    obtain⟨⟨o,c⟩,k⟩:=q;simp only at h;by_cases h20:20<o.length
    ·rw [if_pos h20]at h;cases h
    rw [if_neg h20]at h;obtain⟨g1,g2,g3⟩:=J6 E hL he;obtain⟨k1,k2,k3⟩:=ih f' k o c v j (by omega) g2 h;refine⟨by omega,k2,fun hj=>?_⟩;rw [cF,fN E _ i rfl hi (.inl (by omega)),g3];simp only;rw [if_neg h20];exact k3 hj
theorem kA (hL:b8 L) {i:Nat} {v:List aG × Int} {j:Nat} (hi:i≤L.length) (h:cn L i=.ok (v,j)):i≤j∧j≤L.length∧(j<L.length→cn L' (p+i)=.ok (v,p+j)) :=
  GN E hL _ _ _ _ _ _ _ (by have:=E.len;omega) hi h
theorem JJ (hL:b8 L) {start:Bool} {a:Nat} {v:List aG × List aG × Int} {j:Nat} (ha:a≤L.length) (h:dG L start a=.ok (v,j)):a≤j∧j≤L.length∧(j<L.length→dG L' start (p+a)=.ok (v,p+j)):=by
 unfold dG at h;cases hi:cn L a with
 | error e=>rw [hi]at h;cases h
 | ok q=>
  obtain⟨⟨l,c⟩,j1⟩:=q;obtain⟨g1,g2,g3⟩:=kA E hL ha hi;rw [hi]at h;simp only at h;by_cases qJ:pk L j1=123
  ·have jB:j1<L.length:=bB (by omega);rw [if_pos qJ]at h;by_cases hc:0≤c
   ·rw [if_pos hc]at h;cases h
   rw [if_neg hc]at h;cases hi2:cn L (j1+1)with
   | error e=>rw [hi2]at h;cases h
   | ok q=>
    obtain⟨⟨l2,c2⟩,j2⟩:=q;obtain⟨k1,k2,k3⟩:=kA E hL jB hi2;rw [hi2]at h;simp only at h;injection h with h;injection h with h3 h4;subst h3 h4;refine⟨by omega,k2,fun hj=>?_⟩;unfold dG;rw [g3 jB];simp only;rw [E.pk jB,if_pos qJ,if_neg hc,show p+j1+1=p+(j1+1) from rfl,k3 hj]
  rw [if_neg qJ]at h;by_cases hs:start=true
  ·rw [if_pos hs]at h;cases h
  rw [if_neg hs]at h;injection h with h;injection h with h3 h4;subst h3 h4;refine⟨g1,g2,fun hj=>?_⟩;unfold dG;rw [g3 hj];simp only;rw [E.pk hj,if_neg qJ,if_neg hs]
theorem CS (hL:b8 L) {i:Nat} {v:List aG × Bool} {j:Nat} (hi:i≤L.length) (h:dX L i=.ok (v,j)):i≤j∧j≤L.length∧(j<L.length→dX L' (p+i)=.ok (v,p+j)):=by
 unfold dX at h;by_cases uN:pk L i=125
 ·have hl:i<L.length:=bB (by omega);rw [if_pos uN]at h;cases hi2:cn L (i+1)with
  | error e=>rw [hi2]at h;cases h
  | ok q=>
   obtain⟨⟨l,c⟩,k⟩:=q;obtain⟨k1,k2,k3⟩:=kA E hL hl hi2;rw [hi2]at h;simp only at h;by_cases hc:0≤c
   ·rw [if_pos hc]at h;cases h
   rw [if_neg hc]at h;by_cases kI:pk L k=36
   ·have ia:k<L.length:=bB (by omega);rw [if_pos kI]at h;injection h with h;injection h with h3 h4;subst h3 h4;refine⟨by omega,ia,fun hj=>?_⟩;unfold dX;rw [E.pk hl,if_pos uN,show p+i+1=p+(i+1) from rfl,k3 ia];simp only;rw [if_neg hc,E.pk ia,if_pos kI];rfl
   rw [if_neg kI]at h;injection h with h;injection h with h3 h4;subst h3 h4;refine⟨by omega,k2,fun hj=>?_⟩;unfold dX;rw [E.pk hl,if_pos uN,show p+i+1=p+(i+1) from rfl,k3 hj];simp only;rw [if_neg hc,E.pk hj,if_neg kI]
 rw [if_neg uN]at h;injection h with h;injection h with h3 h4;subst h3 h4;refine⟨Nat.le_refl _,hi,fun hj=>?_⟩;unfold dX;rw [E.pk hj,if_neg uN]
theorem CM (hL:b8 L) {i:Nat} {v:bQ} {j:Nat} (hi:i≤L.length) (h:dB L i=.ok (v,j)):ay L i≤j∧j≤L.length∧(j<L.length→dB L' (p+i)=.ok (v,p+j)):=by
 unfold dB at h;obtain⟨a0,ha0⟩:∃ a0,ay L i=a0:=⟨_,rfl⟩;rw [ha0]at h;have Xw:a0≤L.length:=(by rw [← ha0];exact nJ hi);obtain⟨a1,lK⟩:∃ a1,(if pk L a0=94 then a0+1 else a0)=a1:=⟨_,rfl⟩;rw [lK]at h;have aaH:a0≤a1∧a1≤L.length:=by
  rw [← lK];split
  ·rename_i ni;have:=bB (L:=L) (i:=a0) (by omega);omega
  exact⟨Nat.le_refl _,Xw⟩
 cases hh:dG L (decide (pk L a0=94)) a1 with
 | error e=>rw [hh]at h;cases h
 | ok q=>
  obtain⟨⟨b,s,c⟩,j1⟩:=q;obtain⟨g1,g2,g3⟩:=JJ E hL aaH.2 hh;rw [hh]at h;simp only at h;cases ht:dX L j1 with
  | error e=>rw [ht]at h;cases h
  | ok q=>
   obtain⟨⟨a,fin⟩,k⟩:=q;obtain⟨k1,k2,k3⟩:=CS E hL g2 ht;rw [ht]at h;simp only at h;injection h with h;injection h with h3 h4;subst h3 h4;have h5:=de L k;have h6:=nJ k2;refine⟨by omega,h6,fun hj=>?_⟩;have Cm:a0<L.length:=(by omega);unfold dB;rw [fN E _ i rfl hi (.inl (by omega)),ha0,E.pk Cm,show(if pk L a0=94 then p+a0+1 else p+a0)=p+a1 by rw [← lK];split <;> rfl,g3 (by omega)];simp only;rw [k3 (by omega)];simp only;rw [fN E _ k rfl k2 (.inl hj)]
theorem yf {i:Nat} {d:Int} {j:Nat} (h:eG L i=.ok (d,j)):i<j∧j≤L.length∧eG L' (p+i)=.ok (d,p+j):=by
 unfold eG at h ⊢;by_cases Hy:pk L i=62
 ·have hl:i<L.length:=bB (by omega);rw [if_pos Hy]at h;injection h with h;injection h with h3 h4;subst h3 h4;rw [E.pk hl,if_pos Hy];exact⟨by omega,hl,rfl⟩
 rw [if_neg Hy]at h;by_cases yU:pk L i=60∧pk L (i+1)=62
 ·have hl:i<L.length:=bB (by omega);have ia:i+1<L.length:=bB (by omega);rw [if_pos yU]at h;injection h with h;injection h with h3 h4;subst h3 h4;rw [E.pk hl,show p+i+1=p+(i+1) from rfl,E.pk ia,if_neg Hy,if_pos yU];exact⟨by omega,ia,rfl⟩
 rw [if_neg yU]at h;cases hn:aQ L i 60 with
 | error e=>rw [hn]at h;cases h
 | ok k=>
  obtain⟨hk,e1⟩:=jb E hn (by decide);obtain⟨rfl,hp⟩:=fF hn;have hl:i<L.length:=hk;rw [hn]at h;simp only at h;injection h with h;injection h with h3 h4;subst h3 h4;have c1:=E.is (k:=i+1) hk (r:=62) (by decide) (by decide) (by decide);rw [E.pk hl,if_neg Hy,show p+i+1=p+(i+1) from rfl,if_neg (fun x=>yU ⟨x.1,c1.1 x.2⟩),e1];exact⟨by omega,hk,rfl⟩
theorem JC (hL:b8 L) {i:Nat} {v:aH} {j:Nat} (hi:i≤L.length) (h:iK L i=.ok (v,j)):i≤j∧j≤L.length∧(j<L.length→iK L' (p+i)=.ok (v,p+j)):=by
 unfold iK at h;cases hs:dB L i with
 | error e=>rw [hs]at h;cases h
 | ok q=>
  obtain⟨l,a⟩:=q;obtain⟨g1,g2,g3⟩:=CM E hL hi hs;rw [hs]at h;simp only at h;cases ha:eG L a with
  | error e=>rw [ha]at h;cases h
  | ok q=>
   obtain⟨d,k⟩:=q;obtain⟨k1,k2,k3⟩:=yf E ha;rw [ha]at h;simp only at h;cases wK:dB L k with
   | error e=>rw [wK]at h;cases h
   | ok q=>
    obtain⟨r,m⟩:=q;obtain⟨m1,m2,m3⟩:=CM E hL k2 wK;rw [wK]at h;simp only at h;have h7:=de L i;have h8:=de L k;by_cases hw:fG ⟨2,eu,[],d,l,r⟩≠0
    ·rw [if_pos hw]at h;cases h
    rw [if_neg hw]at h;injection h with h;injection h with h3 h4;subst h3 h4;refine⟨by omega,m2,fun hj=>?_⟩;unfold iK;rw [g3 (by omega)];simp only;rw [k3];simp only;rw [m3 hj];simp only;rw [if_neg hw]
theorem KD (hL:b8 L) {i:Nat} {v:aH} {j:Nat} (h:iP L i=.ok (v,j)):i≤j∧j≤L.length∧(j<L.length→iP L' (p+i)=.ok (v,p+j)):=by
 unfold iP at h;cases hn:aQ L (i+1) 58 with
 | error e=>rw [hn]at h;cases h
 | ok a=>
  obtain⟨ha,e1⟩:=jb E hn (by decide);have h0:=(fF hn).1;rw [hn]at h;simp only at h;have h5:=de L a;have h6:=nJ ha;by_cases jZ:pk L (ay L a)=91
  ·have hl:ay L a<L.length:=bB (by omega);rw [if_pos jZ]at h;cases hs:bE L 20 (ay L a)with
   | error e=>rw [hs]at h;cases h
   | ok q=>
    obtain⟨s,k⟩:=q;obtain⟨k0,k1,k2⟩:=zR E hL 20 _ _ _ hs;rw [hs]at h;simp only at h;injection h with h;injection h with h3 h4;subst h3 h4;refine⟨by omega,k1,fun hj=>?_⟩;unfold iP;rw [show p+i+1=p+(i+1) from rfl,e1];simp only;rw [fN E _ a rfl ha (.inl hl),E.pk hl,if_pos jZ,k2]
  rw [if_neg jZ]at h;by_cases hb:jD (gL L (ay L a))=true
  ·rw [if_pos hb]at h;injection h with h;injection h with h3 h4;subst h3 h4;have h7:=vn L (ay L a);refine⟨by omega,kj h6,fun hj=>?_⟩;have hl:ay L a<L.length:=(by omega);unfold iP;rw [show p+i+1=p+(i+1) from rfl,e1];simp only;rw [fN E _ a rfl ha (.inl hl),E.pk hl,if_neg jZ,yF E h6,if_pos hb,i4 E h6]
  rw [if_neg hb]at h;cases h
theorem MW (hL:b8 L) {i:Nat} {v:aH} {j:Nat} (hi:i<L.length) (h:mY L i=.ok (v,j)):i≤j∧j≤L.length∧(j<L.length→mY L' (p+i)=.ok (v,p+j)):=by
 unfold mY at h;cases hn:fX L (i+1)with
 | error e=>rw [hn]at h;cases h
 | ok q=>
  obtain⟨s,a⟩:=q;obtain⟨ha,e1⟩:=C1 E hi _ _ hn;have h0:=(j9 hn).1;rw [hn]at h;simp only at h;cases hq:aQ L (ay L a) 61 with
  | error e=>rw [hq]at h;cases h
  | ok k=>
   obtain⟨hk,e2⟩:=jb E hq (by decide);have h1:=(fF hq).1;have h2:=de L a;rw [hq]at h;simp only at h;cases hs:bE L 20 (ay L k)with
   | error e=>rw [hs]at h;cases h
   | ok q=>
    obtain⟨t,m⟩:=q;obtain⟨k0,k1,k2⟩:=zR E hL 20 _ _ _ hs;have h4:=de L k;rw [hs]at h;simp only at h;injection h with h;injection h with h3 h5;subst h3 h5;refine⟨by omega,k1,fun hj=>?_⟩;unfold mY;rw [show p+i+1=p+(i+1) from rfl,e1];simp only;rw [fN E _ a rfl ha (.inl (by omega)),e2];simp only;rw [fN E _ k rfl hk (.inl (by omega)),k2]
end
theorem Cw {L:List Int} (hL:b8 L) {i:Nat} {v:bQ} {j:Nat} (kI:pk L i=36) (h:dB L i=.ok (v,j)):j=i∨ay L (aZ L (i+1))≤j:=by
 have E:GG 0 L L:=⟨fun k _=>by rw [Nat.zero_add],.inr (.inr (by rw [Nat.zero_add];exact pz (Nat.le_refl _)))⟩;have e0:ay L i=i:=Ja (by rw [kI];decide) (by rw [kI];decide);have hl:i<L.length:=bB (by omega);unfold dB at h;rw [e0,if_neg (by rw [kI];decide),show decide (pk L i=94)=false by rw [kI];decide]at h;unfold dG at h;cases hi:cn L i with
 | error e=>rw [hi]at h;cases h
 | ok q=>
  obtain⟨⟨l,c⟩,j1⟩:=q;have Qj:=kA E hL (Nat.le_of_lt hl) hi;have key:j1=i∨ay L (aZ L (i+1))≤j1:=by
   unfold cn at hi;rw [cF,e0]at hi;unfold bY at hi;rw [if_neg (by rw [kI];decide),if_neg (by rw [kI];decide)]at hi;by_cases hc:pk L i=36∧jF (pk L (i+1))=true
   ·rw [if_pos hc]at hi;cases hs:fX L (i+1)with
    | error e=>rw [hs]at hi;cases hi
    | ok q=>
     obtain⟨s,k⟩:=q;have hk:=(j9 hs).2.2.2;rw [hs]at hi;simp only at hi;split at hi
     ·cases hi
     have:=LA hL _ _ _ _ _ _ hi;rw [hk]at this;exact .inr this
   rw [if_neg hc,if_neg (by rw [kI];decide),if_neg (by rw [kI];decide)]at hi;simp only at hi;injection hi with hi;injection hi with h3 h4;exact .inl h4.symm
  rw [hi]at h;simp only at h;rcases key with rfl | key
  ·rw [if_neg (by rw [kI];decide),if_neg (by decide)]at h;simp only at h;unfold dX at h;rw [if_neg (by rw [kI];decide)]at h;simp only at h;injection h with h;injection h with h3 h4;rw [e0]at h4;exact .inl h4.symm
  right;have up:∀ (r:jN (List aG × List aG × Int)),(match r with | .error e=>Except.error e | .ok ((b,s,c),j)=>match dX L j with | .error e=>.error e | .ok ((a,fin),k)=>.ok ((⟨false,fin,b,s,a,c⟩:bQ),ay L k))=.ok (v,j)→(∀ x k,r=.ok (x,k)→j1≤k∧k≤L.length)→j1≤j:=by
   intro r hr hk;cases r with
   | error e=>cases hr
   | ok q=>
    obtain⟨⟨b,s,c⟩,k⟩:=q;obtain⟨hk1,hk2⟩:=hk _ _ rfl;simp only at hr;cases ht:dX L k with
    | error e=>rw [ht]at hr;cases hr
    | ok q=>
     obtain⟨⟨a,fin⟩,m⟩:=q;have hm:=(CS E hL hk2 ht).1;rw [ht]at hr;simp only at hr;injection hr with hr;injection hr with h3 h4;have:=de L m;omega
  refine Nat.le_trans key (up _ h ?_);intro x k hk;split at hk
  ·rename_i qJ;have jB:j1<L.length:=bB (by omega);split at hk
   ·cases hk
   cases hi2:cn L (j1+1)with
   | error e=>rw [hi2]at hk;cases hk
   | ok q=>
    obtain⟨⟨l2,c2⟩,j2⟩:=q;have:=kA E hL jB hi2;rw [hi2]at hk;simp only at hk;injection hk with hk;injection hk with h3 h4;omega
  rw [if_neg (by decide)]at hk;injection hk with hk;injection hk with h3 h4;omega
theorem yV {p:Nat} {L L':List Int} (E:GG p L L') (hL:b8 L) {i:Nat} {v:aH} {j:Nat} (hi:i≤L.length) (h:iQ L i=.ok (v,j)):i≤j∧j≤L.length∧(j<L.length→iQ L' (p+i)=.ok (v,p+j)):=by
 unfold iQ at h;by_cases vG:pk L i=58
 ·rw [if_pos vG]at h;have hl:i<L.length:=bB (by omega);obtain⟨g1,g2,g3⟩:=KD E hL h;refine⟨g1,g2,fun hj=>?_⟩;unfold iQ;rw [E.pk hl,if_pos vG];exact g3 hj
 rw [if_neg vG]at h;by_cases kI:pk L i=36∧pk L (ay L (aZ L (i+1)))=61
 ·rw [if_pos kI]at h;have hl:i<L.length:=bB (by omega);have ia:ay L (aZ L (i+1))<L.length:=bB (by omega);obtain⟨g1,g2,g3⟩:=MW E hL hl h;refine⟨g1,g2,fun hj=>?_⟩;unfold iQ;rw [E.pk hl,if_neg vG,show p+i+1=p+(i+1) from rfl,i4 E hl,fN E _ _ rfl (kj hl) (.inl ia),E.pk ia,if_pos kI];exact g3 hj
 rw [if_neg kI]at h;obtain⟨g1,g2,g3⟩:=JC E hL hi h;refine⟨g1,g2,fun hj=>?_⟩;have hl:i<L.length:=(by omega);unfold iQ;rw [E.pk hl,if_neg vG,if_neg];exact g3 hj;rintro⟨x1,x2⟩;rw [show p+i+1=p+(i+1) from rfl,i4 E hl]at x2;rcases Nat.lt_or_ge (ay L (aZ L (i+1))) L.length with hs | hs
 ·rw [fN E _ _ rfl (kj hl) (.inl hs),E.pk hs]at x2;exact kI ⟨x1,x2⟩
 unfold iK at h;cases hsd:dB L i with
 | error e=>rw [hsd]at h;cases h
 | ok q=>
  obtain⟨l,a⟩:=q;rw [hsd]at h;simp only at h;cases ha:eG L a with
  | error e=>rw [ha]at h;cases h
  | ok q=>
   obtain⟨d,k⟩:=q;have hk:=(yf E ha);rcases Cw hL x1 hsd with rfl | hge
   ·unfold eG at ha;rw [if_neg (by omega),if_neg (fun x=>by have:=x.1;omega),yN (by omega)]at ha;cases ha
   omega
theorem Jv {L:List Int} (hL:b8 L) {i:Nat} {v:aH} {j:Nat} (hi:i≤L.length) (h:iQ L i=.ok (v,j)):i≤j∧j≤L.length:=by
 have E:GG 0 L L:=⟨fun k _=>by rw [Nat.zero_add],.inr (.inr (by rw [Nat.zero_add];exact pz (Nat.le_refl _)))⟩;exact⟨(yV E hL hi h).1,(yV E hL hi h).2.1⟩
theorem oB (A:Option Addr) (n c:Nat) (l:List aH) (w:World) (hn:n≤maxLen) (hl:AV w w.heap.size A n l) :
    Calls Tryz.prog 63 #[.slice A n c] w fun e w'=>e=.returned (.agg #[.int .i64 (fl l).1,.int .i64 (fl l).2])∧Below w.heap.size w w':=by
 have aO:=qqh (jR.len hl);have HL:=qqh hl;have hn2:n≤9223372036854775807:=(by unfold maxLen at hn;omega);clear hl hn;by_cases h20:200<n
 ·have HP:=qqh (show fl l=(5,0) by unfold fl;rw [if_pos (by rw [aO.out];exact h20)]);go_enter Tryz.func63,Tryz.ntmps63;go_wp2_with fail;rw [HP.out];exact bodyPost_ret (v:=.agg #[.int .i64 5,.int .i64 0]) (by simp [results,Tryz.results63,go_sem]) rfl ⟨rfl,(Below.refl _ _).alloc (Nat.le_refl _) _⟩
 have HP:=qqh (show fl l=kX 0 l by unfold fl;rw [if_neg (by rw [aO.out];exact h20)]);go_enter Tryz.func63,Tryz.ntmps63;go_wp2_with fail;go_loopw [12] (S3 w l n) (fun i _=>n - (intOf i).toNat);(case atStart=>exact⟨0,Nat.zero_le _,rfl,rfl,ai.new _ _ _,(Below.refl _ _).alloc (Nat.le_refl _) _⟩);obtain⟨k,hk,rfl,aV,hres,hb⟩:=hrel;have hz:=hb.size;have ago:=hres.lt;by_cases hlt:k<n
 ·obtain⟨p,hp⟩:∃ z,l[k]? = some z:=⟨_,List.getElem?_eq_getElem (by rw [aO.out];exact hlt)⟩;rw [cW hp,kX]at aV;obtain⟨b,off,A',n',c',L1,L2,L3,R1,R2,R3,a1,a2,a3,x1,x2,x3,b1,b2,b3,y1,y2,y3,rfl,cC,⟨f0,f1,f2,f3,f4,f5,f6,f7,f8,f9,f10,f11,f12,f13,f14,f15⟩,hs,hn',l1,l2,l3,zo,wQ,zF,r1,r2,r3,AT,wP,Ai,cl,cr,hm⟩:=FO HL.out hp;have d0:=(hb.cell (p:=⟨b,off+k*16,none⟩) cC).trans f0;have d1:=(hb.cell (p:=⟨b,off+k*16+1,none⟩) cC).trans f1;have d2:=(hb.cell (p:=⟨b,off+k*16+2,none⟩) cC).trans f2;have d3:=(hb.cell (p:=⟨b,off+k*16+3,none⟩) cC).trans f3;have d4:=(hb.cell (p:=⟨b,off+k*16+4,none⟩) cC).trans f4;have d5:=(hb.cell (p:=⟨b,off+k*16+5,none⟩) cC).trans f5;have d6:=(hb.cell (p:=⟨b,off+k*16+6,none⟩) cC).trans f6;have d7:=(hb.cell (p:=⟨b,off+k*16+7,none⟩) cC).trans f7;have d8:=(hb.cell (p:=⟨b,off+k*16+8,none⟩) cC).trans f8;have d9:=(hb.cell (p:=⟨b,off+k*16+9,none⟩) cC).trans f9;have d10:=(hb.cell (p:=⟨b,off+k*16+10,none⟩) cC).trans f10;have d11:=(hb.cell (p:=⟨b,off+k*16+11,none⟩) cC).trans f11;have d12:=(hb.cell (p:=⟨b,off+k*16+12,none⟩) cC).trans f12;have d13:=(hb.cell (p:=⟨b,off+k*16+13,none⟩) cC).trans f13;have d14:=(hb.cell (p:=⟨b,off+k*16+14,none⟩) cC).trans f14;have d15:=(hb.cell (p:=⟨b,off+k*16+15,none⟩) cC).trans f15;have HI:=qqh (fun w' (hw:Below w.heap.size w w')=>qH p A' n' c' L1 L2 L3 R1 R2 R3 a1 a2 a3 x1 x2 x3 b1 b2 b3 y1 y2 y3 w' (Rd.more (Rd.below hs hw) hw.size) hn' (aL l1 hw) (aL l2 hw) (aL l3 hw) zo wQ zF (aL r1 hw) (aL r2 hw) (aL r3 hw) AT wP Ai);clear f0 f1 f2 f3 f4 f5 f6 f7 f8 f9 f10 f11 f12 f13 f14 f15 hs hn' l1 l2 l3 zo wQ zF r1 r2 r3 AT wP Ai cl cr hm
  have bI:=qqh (hb.alloc hz (.cells #[.int .i64 p.kind,.string p.name,.slice A' n' c',.int .i64 p.dir,.bool p.left.start,.bool p.left.fin,.slice L1 a1 x1,.slice L2 a2 x2,.slice L3 a3 x3,.int .i64 p.left.ag,.bool p.right.start,.bool p.right.fin,.slice R1 b1 y1,.slice R2 b2 y2,.slice R3 b3 y3,.int .i64 p.right.ag] 97));have MG:=qqh (hres.alloc (.cells #[.int .i64 p.kind,.string p.name,.slice A' n' c',.int .i64 p.dir,.bool p.left.start,.bool p.left.fin,.slice L1 a1 x1,.slice L2 a2 x2,.slice L3 a3 x3,.int .i64 p.left.ag,.bool p.right.start,.bool p.right.fin,.slice R1 b1 y1,.slice R2 b2 y2,.slice R3 b3 y3,.int .i64 p.right.ag] 97));by_cases hi:fG p=0
  ·rw [if_pos hi]at aV;have HG:=qqh aV;clear aV hres;go_wp2_with fail;refine(HI.out _ bI.out).mono ?_;rintro e w2 ⟨rfl,aR⟩;rw [hi];have hk2:=ai.below MG.out aR MG.out.lt;have bL:=bI.out.trans (aR.mono bI.out.size);have ZT:=qqh hk2;have bF:=qqh bL;clear aR bL hk2;go_wp2_with fail;exact⟨⟨k+1,by omega,by go_num,HG.out,ZT.out,bF.out⟩,by simp [intOf];omega⟩
  rw [if_neg hi]at aV;have hi2:(fG p != 0)=true:=(by simpa using hi);have HG:=qqh aV;clear aV hres hi;go_wp2_with fail;refine(HI.out _ bI.out).mono ?_;rintro e w2 ⟨rfl,aR⟩;have hk2:=ai.below MG.out aR MG.out.lt;have bL:=bI.out.trans (aR.mono bI.out.size);have q0:w2.cell? ⟨w.heap.size,0,none⟩=some (.int .i64 0):=hk2.cell 0;have q1:w2.cell? ⟨w.heap.size,1,none⟩=some (.int .i64 0):=hk2.cell 1;have q2:=hk2.frozen 0;have q3:=hk2.frozen 1;have bF:=qqh bL;clear aR bL hk2;go_wp2_with fail;rw [HP.out,HG.out];exact bodyPost_ret (v:=.agg #[.int .i64 (fG p),.int .i64 k]) (by simp [results,Tryz.results63,go_sem,q0,q1]) rfl ⟨rfl,(bF.out.setCell (by simp) _).setCell (by simp) _⟩
 obtain rfl:k=n:=(by omega);rw [List.drop_of_length_le (by rw [aO.out];omega)]at aV;have HG:=qqh (aV.trans (show kX k [] =(0,0) from rfl));have q0:wr.cell? ⟨w.heap.size,0,none⟩=some (.int .i64 0):=hres.cell 0;have q1:wr.cell? ⟨w.heap.size,1,none⟩=some (.int .i64 0):=hres.cell 1;have q2:=hres.frozen 0;have q3:=hres.frozen 1;clear aV hres;go_wp2_with fail;rw [HP.out,HG.out];exact bodyPost_ret (v:=.agg #[.int .i64 0,.int .i64 0]) (by simp [results,Tryz.results63,go_sem,q0,q1]) rfl ⟨rfl,(hb.setCell (by simp) _).setCell (by simp) _⟩
end Go.Proofs.YthgkedoildcbcaaGreatDoor
