/- Cursor + CurFail + CurSkip + CurPlain + CurHex + CurChar + Caught -/
import Derived.Test.YtapechjebkjidaaGreatDoorZs30
import Derived.Test.YtapechjebkjidaaGreatDoorZs23
import Derived.Test.YtapechjebkjidaaGreatDoorZs9
import Derived.Defers
import Derived.Recover
set_option maxHeartbeats 3200000
set_option maxRecDepth 100000
namespace Go.Proofs.YtapechjebkjidaaGreatDoor
open Go.RowKit
def nB (w:World) (g:Nat) (cs:Array Value):Prop:=∃ t,ak w g t cs
section
variable {w w' : World} {g : Nat} {cs : Array Value}
theorem nB.lt (h:nB w g cs):g<w.heap.size:=let ⟨_,hb⟩:=h;hb.lt
theorem nB.cell (h:nB w g cs) (i:Nat):w.cell? ⟨g,i,none⟩=cs[i]?:=let ⟨_,hb⟩:=h;hb.cell i
theorem nB.frozen (h:nB w g cs) (i:Nat):w.frozen? ⟨g,i,none⟩=false:=let ⟨_,hb⟩:=h;hb.frozen i
theorem nB.drewN (h:nB w g cs) (n:Nat):nB (w.drewN n) g cs:=h
theorem nB.put (h:nB w g cs) (i:Nat) (u:Value):nB (w.setCell ⟨g,i,none⟩ u) g (cs.setIfInBounds i u):=let ⟨t,hb⟩:=h;⟨t,hb.put i u⟩
theorem nB.below {B:Nat} (h:nB w g cs) (hb:Below B w w') (hg:g<B):nB w' g cs:=let ⟨t,hc⟩:=h;⟨t,hc.below hb hg⟩
theorem nB.same (h:nB w g cs) (he:w'.heap[g]? = w.heap[g]?):nB w' g cs:=let ⟨t,hc⟩:=h;⟨t,he.trans hc⟩
end
structure ax (w:World) (C:Nat) (A:Option Addr) (n c:Nat) (L:List Int) (i:Nat):Prop where
  blk:nB w C #[.slice A n c,.int .i64 i]
  row:di w (fun b=>b≠C) 1 A n (runeCells L)
  size:n≤4611686018427387904
  le:i≤n
  cap:n≤c
theorem ax.len {w:World} {C:Nat} {A:Option Addr} {n c:Nat} {L:List Int} {i:Nat} (h:ax w C A n c L i):L.length=n:=by
 have:=h.row.1;rw [runeCells_length]at this;omega
theorem ax.drewN {w:World} {C:Nat} {A:Option Addr} {n c:Nat} {L:List Int} {i:Nat} (h:ax w C A n c L i) (k:Nat):ax (w.drewN k) C A n c L i :=
  ⟨h.blk.drewN k,h.row.keep (ag.any (below_drewN (Below.refl _ _) k)),h.size,h.le,h.cap⟩
theorem EW (w:World) (C:Nat) (A:Option Addr) (n c:Nat) (L:List Int) (i k:Nat) (h:ax w C A n c L i) (hk:k≤1000) :
    Calls Tryz.prog 77 #[.pointer (some ⟨C,0,none⟩),.int .i64 k] w fun e w'=>e=.returned (.int .i32 (pk L (i+k)))∧∃ m,w'=w.drewN m:=by
 have c0:=h.blk.cell 0;have c1:=h.blk.cell 1;have hl:=h.len;have hs:=h.size;have hi:=h.le;have hw1:IntKind.i64.wrap ((i:Int)+k)=((i+k:Nat):Int):=(by rw [wrap_small _ (by omega) (by omega)];omega);by_cases hlt:i+k<n
 ·obtain⟨x,hx⟩:∃ x,L[i+k]? = some x:=⟨_,List.getElem?_eq_getElem (by omega)⟩;rw [Ix hx];obtain⟨b,o,rfl,_,_,hc⟩:=h.row.2 (by omega);have d0:w.cell? ⟨b,o+(i+k),none⟩=some (.int .i32 x):=hc _ _ (by simp [runeCells,hx]);have hg:decide ((n:Int)≤((i+k:Nat):Int))=false:=decide_eq_false (by omega);have hk0:(0:Int)≤((i+k:Nat):Int):=(by omega);have hk1:((i+k:Nat):Int)<(n:Int):=(by omega);clear hc h hx hl;go_enter Tryz.func77,Tryz.ntmps77;go_wp2_with fail;go_quiet (fail);go_wp2_with fail;go_quiet (fail);go_wp2_with fail;go_ret;exact⟨rfl,_,by rw [World.drewN_drewN]⟩
 rw [qw (by omega)];have hg:decide ((n:Int)≤((i+k:Nat):Int))=true:=decide_eq_true (by omega);clear h hl;go_enter Tryz.func77,Tryz.ntmps77;go_wp2_with fail;go_quiet (fail);go_wp2_with fail;go_ret;exact⟨rfl,_,rfl⟩
theorem mJ (w:World) (C:Nat) (A:Option Addr) (n c:Nat) (L:List Int) (i:Nat) (h:ax w C A n c L i) :
    Calls Tryz.prog 58 #[.pointer (some ⟨C,0,none⟩)] w fun e w'=>e=.returned (.int .i32 (pk L i))∧∃ m,w'=w.drewN m:=by
 have HL:=Lib.hid (show Calls Tryz.prog 77 #[.pointer (some ⟨C,0,none⟩),.int .i64 0] w fun e w'=>e=.returned (.int .i32 (pk L i))∧∃ m,w'=w.drewN m from EW w C A n c L i 0 h (Nat.zero_le _));clear h;go_enter Tryz.func58,Tryz.ntmps58;go_wp2_with fail;refine HL.out.mono ?_;rintro e w1 ⟨rfl,hm⟩;go_wp2_with fail;go_ret;exact⟨rfl,hm⟩
theorem b8 (e p:Int) (w:World) :
    Calls Tryz.prog 56 #[.int .i64 e,.int .i64 p] w fun en w'=>en=.panicked [{ v:=.iface 119 (.agg #[.int .i64 e,.int .i64 p]),recovered:=false }]∧w'=w:=by
 go_enter Tryz.func56,Tryz.ntmps56;go_wp2_with fail;exact⟨rfl,rfl,rfl⟩
theorem tW (r:Int) (w:World) :
    Calls Tryz.prog 101 #[.int .i32 r] w fun e w'=>e=.returned (.bool (qO r))∧w'=w:=by
 go_enter Tryz.func101,Tryz.ntmps101;go_wp2;(all_goals go_ret);(all_goals refine⟨bI ?_,rfl⟩);(all_goals (rw [Bool.eq_iff_iff];simp [qO];try omega))
def aV (e p:Int):Ending:=.panicked [{ v:=.iface 119 (.agg #[.int .i64 e,.int .i64 p]),recovered:=false }]
theorem ax.move {w:World} {C:Nat} {A:Option Addr} {n c:Nat} {L:List Int} {i j:Nat} (h:ax w C A n c L i) (hj:j≤n):ax (w.setCell ⟨C,1,none⟩ (.int .i64 j)) C A n c L j :=
  ⟨h.blk.put 1 _,h.row.keep (ag.setCell (p:=⟨C,1,none⟩) _ (fun _ hb=>hb) (fun _ h _=>h)),h.size,hj,h.cap⟩
theorem fE (w:World) (C:Nat) (A:Option Addr) (n c:Nat) (L:List Int) (i:Nat) (r:Int) (h:ax w C A n c L i) (hr:r ≠ -1) :
    Calls Tryz.prog 60 #[.pointer (some ⟨C,0,none⟩),.int .i32 r] w fun e w'=>
      match aU L i r with
      | .ok j=>e=.returned (.tuple #[])∧ax w' C A n c L j∧bM w C w'
      | .error (x,p)=>e=aV x p∧bM w C w':=by
 have iA:=Lib.hid (mJ w C A n c L i h);have HC:=Lib.hid h;have hs:=h.size;have hi:=h.le;have hl:=h.len;have hw1:IntKind.i64.wrap ((i:Int)+1)=((i+1:Nat):Int):=(by rw [wrap_small _ (by omega) (by omega)];omega);clear h;unfold aU;by_cases he:pk L i=r
 ·have hlt:i<L.length:=bw (by omega);rw [if_pos he];have hg:decide (pk L i=r)=true:=decide_eq_true he;go_enter Tryz.func60,Tryz.ntmps60;go_wp2_with fail;refine iA.out.mono ?_;rintro e w1 ⟨rfl,m,rfl⟩;have jE:=Lib.hid (HC.out.drewN m);have c0:=jE.out.blk.cell 0;have c1:=jE.out.blk.cell 1;have f1:=jE.out.blk.frozen 1;go_wp2_with fail;have hm:=jE.out.move (j:=i+1) (by omega);rw [show(((i+1:Nat)):Int)=(i:Int)+1 by omega]at hm;go_end0;exact⟨rfl,hm,(bM.drewN w C m).trans (bM.set _ C 1 _)⟩
 rw [if_neg he];go_enter Tryz.func60,Tryz.ntmps60;go_wp2_with fail;refine iA.out.mono ?_;rintro e w1 ⟨rfl,m,rfl⟩;have jE:=Lib.hid (HC.out.drewN m);have c0:=jE.out.blk.cell 0;have c1:=jE.out.blk.cell 1;go_wp2_with fail;refine(b8 2 i _).mono ?_;rintro e w2 ⟨rfl,rfl⟩;go_wp2_with fail;exact⟨rfl,rfl,bM.drewN w C m⟩
theorem iV (w:World) (C:Nat) (A:Option Addr) (n c:Nat) (L:List Int) (i:Nat) (h:ax w C A n c L i) :
    Calls Tryz.prog 76 #[.pointer (some ⟨C,0,none⟩)] w fun e w'=>e=.returned (.tuple #[])∧ax w' C A n c L (aQ L i)∧bM w C w':=by
 have HC:=Lib.hid h;have hs:=h.size;have hl:=h.len;clear h;go_enter Tryz.func76,Tryz.ntmps76;go_wp2_with fail;go_loopw [2] (fun _ wr=>∃ j,j≤n∧aQ L i=aQ L j∧ax wr C A n c L j∧bM w C wr) (fun _ wr=>n - (match wr.cell? ⟨C,1,none⟩with | some (.int _ j)=>j.toNat | _=>0));(case atStart=>exact⟨i,HC.out.le,rfl,HC.out,bM.refl _ _⟩);obtain⟨j,hj,tL,hc,hb⟩:=hrel;have HJ:=Lib.hid hc;have HB:=Lib.hid hb;have HS:=Lib.hid tL;have iA:=Lib.hid (mJ wr C A n c L j hc);have hm0:=hc.blk.cell 1;have nU:=Lib.hid hm0;have hw1:IntKind.i64.wrap ((j:Int)+1)=((j+1:Nat):Int):=(by rw [wrap_small _ (by omega) (by omega)];omega);clear hc hb tL hm0;go_wp2_with fail;refine iA.out.mono ?_;rintro e w1 ⟨rfl,m,rfl⟩;have jE:=Lib.hid (HJ.out.drewN m);go_wp2_with fail;refine(tW _ _).mono ?_;rintro e w2 ⟨rfl,rfl⟩;by_cases eO:qO (pk L j)=true
 ·rw [eO];have hlt:j<L.length:=bw (fun e=>by rw [e]at eO;exact absurd eO (by decide));have c0:=jE.out.blk.cell 0;have c1:=jE.out.blk.cell 1;have f1:=jE.out.blk.frozen 1;have Se:=jE.out.move (j:=j+1) (by omega);rw [show(((j+1:Nat)):Int)=(j:Int)+1 by omega]at Se;have vN:=Lib.hid Se;clear Se;go_wp2_with fail;refine⟨⟨j+1,by omega,HS.out.trans (dU hlt eO),vN.out,(HB.out.trans (bM.drewN wr C m)).trans (bM.set _ C 1 _)⟩,?_⟩;have e1:((wr.drewN m).setCell ⟨C,1,none⟩ (.int .i64 ((j:Int)+1))).cell? ⟨C,1,none⟩=some (.int .i64 ((j+1:Nat):Int)):=vN.out.blk.cell 1;have e2:wr.cell? ⟨C,1,none⟩=some (.int .i64 (j:Int)):=nU.out;rw [e1,e2];simp only [Int.toNat_natCast];omega
 rw [Bool.not_eq_true]at eO;rw [eO];go_wp2_with fail;go_end0;refine⟨rfl,?_,HB.out.trans (bM.drewN wr C m)⟩;rw [HS.out,show aQ L j=j from cQ (fun _=>eO)];exact jE.out
def Gi (r:Int):Prop:=r = -1∨Utf8.valid r=true
def sF:ByteArray:=⟨#[91,93,38,45,94,92,58,36,40,41,123,125,60,62,124,59,35,39,34,61,44]⟩
theorem C0 (r:Int):(sF.data.toList.any fun b=>decide ((b.toNat:Int)=r))=rR.contains r:=by
 rw [Bool.eq_iff_iff];simp [sF,rR];omega
theorem pF (r:Int) (w:World) (hr:Gi r) :
    Calls Tryz.prog 122 #[.int .i32 r] w fun e w'=>e=.returned (.bool (cY r))∧Below w.heap.size w w':=by
 have HS:=Lib.hid (show Calls Tryz.prog 145 #[.string sF,.int .i32 r] w fun e w'=>e=.returned (.bool (rR.contains r))∧Below w.heap.size w w' by
  have:=pW sF r w (by decide) (by decide) (by decide) hr;rw [C0]at this;exact this)
 clear hr;unfold cY;by_cases h0:0≤r
 ·have hd:decide (0≤r)=true:=decide_eq_true h0;rw [hd];cases hb:qO r
  ·go_enter Tryz.func122,Tryz.ntmps122;go_wp2_with fail;refine(tW _ _).mono ?_;rintro e w1 ⟨rfl,hw⟩;rw [hw,hb];go_wp2_with fail;refine HS.out.mono ?_;rintro e w2 ⟨rfl,aL⟩;go_wp2_with fail;go_ret;exact⟨by simp,aL⟩
  go_enter Tryz.func122,Tryz.ntmps122;go_wp2_with fail;refine(tW _ _).mono ?_;rintro e w1 ⟨rfl,hw⟩;rw [hw,hb];go_wp2_with fail;go_ret;exact⟨by simp,Below.refl _ _⟩
 have hd:decide (0≤r)=false:=decide_eq_false h0;rw [hd];go_enter Tryz.func122,Tryz.ntmps122;go_wp2_with fail;go_ret;exact⟨by simp,Below.refl _ _⟩
def gL (L:List Int):Prop:=∀ x∈L,Utf8.valid x=true
theorem gL.ok {L:List Int} (h:gL L):dc L:=fun x hx=>by
 have:=h x hx;simp [Utf8.valid]at this;omega
theorem gL.pk {L:List Int} (h:gL L) (i:Nat):Gi (pk L i):=by
 unfold Go.Proofs.YtapechjebkjidaaGreatDoor.pk;cases hi:L[i]? with
 | none=>exact .inl rfl
 | some x=>exact .inr (h x (List.mem_of_getElem? hi))
theorem ax.at {w:World} {C:Nat} {A:Option Addr} {n c:Nat} {L:List Int} {i:Nat} (h:ax w C A n c L i) (h0:0<n) :
    ∃ b off,A=some ⟨b,off,none⟩∧b<w.heap.size∧∀ j x,L[j]? = some x→w.cell? ⟨b,off+j,none⟩=some (.int .i32 x):=by
 obtain⟨b,off,e,_,hb,hc⟩:=h.row.2 h0;exact⟨b,off,e,hb,fun j x hx=>hc j _ (by rw [bC,hx];rfl)⟩
theorem wX {w:World} {C:Nat} {b off n c:Nat} {L:List Int} {k:Nat} (h:ax w C (some ⟨b,off,none⟩) n c L k) {i j:Nat} (hij:i≤j) (hj:j≤n) :
    (convert 29 9 (.slice (if c=i then some ⟨b,off,none⟩else some ⟨b,off+i,none⟩) (j - i) (c - i))).run Tryz.prog w=.ok (.string (runesBytes (aO L i j))) w:=by
 have hlen:=h.len;have hcap:=h.cap;by_cases hn:0<n
 ·obtain⟨b',off',e,_,hc⟩:=h.at hn;cases e;have key:∀ (o:Nat),o=off+i∨j - i=0→(convert 29 9 (.slice (some ⟨b,o,none⟩) (j - i) (c - i))).run Tryz.prog w=.ok (.string (runesBytes (aO L i j))) w:=by
   intro o ho;rcases ho with rfl | ho
   ·have:=run_convert_runes (P:=Tryz.prog) w 29 9 21 ⟨b,off+i,none⟩ (j - i) (c - i) (aO L i j) (by unfold aO;rw [List.length_take,List.length_drop];omega) Tryz.underlying29 Tryz.underlying21 Tryz.underlying9 (fun q hq=>by
     rw [jV,Nat.add_assoc];unfold aO at hq ⊢;rw [List.length_take,List.length_drop]at hq;refine hc (i+q) _ ?_;rw [List.getD_eq_getElem?_getD,List.getElem?_take_of_lt (by omega),List.getElem?_drop];rw [List.getElem?_eq_getElem (by omega)];rfl)
    rw [show(aO L i j).take (j - i)=aO L i j from List.take_of_length_le (by unfold aO;rw [List.length_take];omega)]at this;exact this
   have:=run_convert_runes (P:=Tryz.prog) w 29 9 21 ⟨b,o,none⟩ (j - i) (c - i) [] (by rw [ho];simp) Tryz.underlying29 Tryz.underlying21 Tryz.underlying9 (fun q hq=>by simp at hq);rw [show([]:List Int).take (j - i)=aO L i j by unfold aO;rw [ho];simp]at this;exact this
  split;exact key _ (.inr (by omega));exact key _ (.inl rfl)
 have:=run_convert_runes (P:=Tryz.prog) w 29 9 21 (if c=i then ⟨b,off,none⟩else ⟨b,off+i,none⟩) (j - i) (c - i) [] (by rw [show j - i=0 by omega];simp) Tryz.underlying29 Tryz.underlying21 Tryz.underlying9 (fun q hq=>by simp at hq);have e:(if c=i then some (⟨b,off,none⟩:Addr)else some ⟨b,off+i,none⟩)=some (if c=i then (⟨b,off,none⟩:Addr)else ⟨b,off+i,none⟩):=(by split <;> rfl);rw [show([]:List Int).take (j - i)=aO L i j by unfold aO;rw [show j - i=0 by omega];simp]at this;rw [e];exact this
def EM (w:World) (C:Nat) (A:Option Addr) (n c:Nat) (L:List Int) (r:kf Int) (e:Ending) (w':World):Prop :=
  match r with
  | .ok (x,j)=>e=.returned (.int .i32 x)∧ax w' C A n c L j∧bM w C w'
  | .error (x,p)=>e=aV x p∧bM w C w'
def PC:ByteArray:=⟨#[48,49,50,51,52,53,54,55,56,57,97,98,99,100,101,102,65,66,67,68,69,70]⟩
theorem Pf (r:Int):(PC.data.toList.any fun b=>decide ((b.toNat:Int)=r))=eV r:=by
 rw [Bool.eq_iff_iff];simp [PC,eV];omega
theorem BT (r:Int) (w:World) (hr:Gi r) :
    Calls Tryz.prog 145 #[.string PC,.int .i32 r] w fun e w'=>e=.returned (.bool (eV r))∧Below w.heap.size w w':=by
 have:=pW PC r w (by decide) (by decide) (by decide) hr;rw [Pf]at this;exact this
theorem ax.below {w w':World} {C:Nat} {A:Option Addr} {n c:Nat} {L:List Int} {i:Nat} (h:ax w C A n c L i) (hb:Below w.heap.size w w'):ax w' C A n c L i :=
  ⟨h.blk.below hb h.blk.lt,h.row.keep (ag.any hb),h.size,h.le,h.cap⟩
theorem Qs {L:List Int} {i:Nat} {e:Int × Nat} (h:aU L (i+1) 123=.error e):kO L i=.error e:=by unfold kO;rw [h]
theorem IF {L:List Int} {i a r:Nat} (h:aU L (i+1) 123=.ok a) (hr:r=aA eV L a) (hb:r - a<1∨6<r - a):kO L i=.error (2,a):=by
 subst hr;unfold kO;rw [h];simp only;rw [if_pos hb]
theorem Qe {L:List Int} {i a r:Nat} {e:Int × Nat} (h:aU L (i+1) 123=.ok a) (hr:r=aA eV L a) (hb:¬(r - a<1∨6<r - a)) (h2:aU L r 125=.error e):kO L i=.error e:=by
 subst hr;unfold kO;rw [h];simp only;rw [if_neg hb,h2]
theorem Qh {L:List Int} {i a r k:Nat} (h:aU L (i+1) 123=.ok a) (hr:r=aA eV L a) (hb:¬(r - a<1∨6<r - a)) (h2:aU L r 125=.ok k) (h3:1114111<ew (aO L a r)):kO L i=.error (3,i):=by
 subst hr;unfold kO;rw [h];simp only;rw [if_neg hb,h2];simp only;rw [if_pos h3]
theorem Tv {L:List Int} {i a r k:Nat} (h:aU L (i+1) 123=.ok a) (hr:r=aA eV L a) (hb:¬(r - a<1∨6<r - a)) (h2:aU L r 125=.ok k) (h3:¬ 1114111<ew (aO L a r)):kO L i=.ok (ew (aO L a r),k):=by
 subst hr;unfold kO;rw [h];simp only;rw [if_neg hb,h2];simp only;rw [if_neg h3]
def VK (w:World) (C:Nat) (A:Option Addr) (n c:Nat) (L:List Int) (a r:Nat) (wr:World):Prop :=
  ∃ j,a≤j∧j≤n∧r=aA eV L j∧ax wr C A n c L j∧bM w C wr
theorem Qg (w:World) (C:Nat) (A:Option Addr) (n c:Nat) (L:List Int) (i:Nat) (h:ax w C A n c L i) (hL:gL L) (hi:i<n) :
    Calls Tryz.prog 147 #[.pointer (some ⟨C,0,none⟩)] w (EM w C A n c L (kO L i)):=by
 have hs:=h.size;have hlen:=h.len;obtain⟨b,off,rfl,_,_⟩:=h.at (by omega);have HL:=Lib.hid hL;have c0:=h.blk.cell 0;have c1:=h.blk.cell 1;have f1:=h.blk.frozen 1;have hw1:IntKind.i64.wrap ((i:Int)+1)=((i+1:Nat):Int):=(by rw [wrap_small _ (by omega) (by omega)];omega);have hm:=h.move (j:=i+1) (by omega);have Tr:=bM.set w C 1 (.int .i64 ((i+1:Nat):Int));rw [show(((i+1:Nat)):Int)=(i:Int)+1 by omega]at hm Tr;have HM:=Lib.hid hm;have bT:=Lib.hid Tr;clear hL hm h Tr;obtain⟨R,hR⟩:∃ R,kO L i=R:=⟨_,rfl⟩;rw [hR];have fI:=Lib.hid hR;clear hR;cases hn:aU L (i+1) 123 with
 | error e0=>
  obtain⟨x,p⟩:=e0;have HN:=Lib.hid (fE _ C _ n c L (i+1) 123 HM.out (by decide));rw [hn]at HN;go_enter Tryz.func147,Tryz.ntmps147;go_wp2_with fail;refine HN.out.mono ?_;rintro e w1 ⟨he,hb⟩;unfold aV at he;subst he;have Ho:=Lib.hid (bT.out.trans hb);clear hb HN;go_wp2_with fail;rw [show R=_ from fI.out.symm.trans (Qs hn)];exact⟨rfl,rfl,Ho.out⟩
 | ok a=>
  have TV:=Lib.hid hn;obtain⟨rfl,hpk⟩:=fZ hn;have HN:=Lib.hid (fE _ C _ n c L (i+1) 123 HM.out (by decide));rw [hn]at HN;have hi1:i+1<n:=(by rw [← hlen];exact bw (by rw [hpk];decide));clear hn;generalize ha:i+1+1=a at *;have Cm:=Lib.hid (xE eV L a);generalize hr:aA eV L a=r at *;have lU:=Lib.hid hr.symm;clear hr;go_enter Tryz.func147,Tryz.ntmps147;go_wp2_with fail;refine HN.out.mono ?_;rintro e w1 ⟨rfl,hc,hb⟩;have HC:=Lib.hid hc;have aW:=Lib.hid (bT.out.trans hb);have g0:=hc.blk.cell 0;have g1:=hc.blk.cell 1;clear hb hc HN bT HM;go_wp2_with fail;go_loopw [25] (fun _ wr=>VK w C (some ⟨b,off,none⟩) n c L a r wr) (fun _ wr=>n - (match wr.cell? ⟨C,1,none⟩with | some (.int _ j)=>j.toNat | _=>0));(case atStart=>exact⟨a,Nat.le_refl _,HC.out.le,lU.out,HC.out,aW.out⟩);obtain⟨j,haj,hj,hrun,uQ,CI⟩:=hrel;have HJ:=Lib.hid uQ;have HB:=Lib.hid CI;have HR:=Lib.hid hrun;have iA:=Lib.hid (fun(W:World) (h:ax W C (some ⟨b,off,none⟩) n c L j)=>mJ W C (some ⟨b,off,none⟩) n c L j h);have nU:=Lib.hid (uQ.blk.cell 1);have hok:=HL.out.pk j;have Ly:=Lib.hid (fun(W:World)=>BT (pk L j) W hok);clear uQ CI hrun;by_cases Fs:eV (pk L j)=true
  ·rw [Fs]at Ly;have hlt:j<L.length:=bw (fun e=>by rw [e]at Fs;exact absurd Fs (by decide));have h0:0≤pk L j:=(pK (l:=[pk L j]) (by simpa using Fs) _ (by simp)).1;have hg:decide (0≤pk L j)=true:=decide_eq_true h0;have Dj:IntKind.i64.wrap ((j:Int)+1)=((j+1:Nat):Int):=(by rw [wrap_small _ (by omega) (by omega)];omega);go_wp2_with fail;refine(iA.out _ HJ.out).mono ?_;rintro e w2 ⟨rfl,m,rfl⟩;go_wp2_with fail;refine(Ly.out _).mono ?_;rintro e w3 ⟨rfl,bQ⟩;have lY:=Lib.hid ((HJ.out.drewN m).below bQ);have bW:=Lib.hid ((HB.out.trans (bM.drewN wr C m)).trans (bM.below C bQ));clear bQ;go_wp2_with fail;refine(iA.out _ lY.out).mono ?_;rintro e w4 ⟨rfl,m2,rfl⟩;have jE:=Lib.hid (lY.out.drewN m2);have d0:=jE.out.blk.cell 0;have d1:=jE.out.blk.cell 1;have f2:=jE.out.blk.frozen 1;have Se:=jE.out.move (j:=j+1) (by omega);rw [show(((j+1:Nat)):Int)=(j:Int)+1 by omega]at Se;have vN:=Lib.hid Se;clear Se;go_wp2_with fail;refine⟨⟨j+1,by omega,by omega,HR.out.trans (dU hlt Fs),vN.out,(bW.out.trans (bM.drewN w3 C m2)).trans (bM.set _ C 1 _)⟩,?_⟩;have e1:((w3.drewN m2).setCell ⟨C,1,none⟩ (.int .i64 ((j:Int)+1))).cell? ⟨C,1,none⟩=some (.int .i64 ((j+1:Nat):Int)):=vN.out.blk.cell 1;have e2:wr.cell? ⟨C,1,none⟩=some (.int .i64 (j:Int)):=nU.out;rw [e1,e2];simp only [Int.toNat_natCast];omega
  rw [Bool.not_eq_true]at Fs;rw [Fs]at Ly;obtain rfl:r=j:=HR.out.trans (cQ (fun _=>Fs));clear HR;go_wp2_with fail;refine(iA.out _ HJ.out).mono ?_;rintro e w2 ⟨rfl,m,rfl⟩;go_wp2_with fail;refine(Ly.out _).mono ?_;rintro e w3 ⟨rfl,bQ⟩;have lY:=Lib.hid ((HJ.out.drewN m).below bQ);have bW:=Lib.hid ((HB.out.trans (bM.drewN wr C m)).trans (bM.below C bQ));clear bQ;have d0:=lY.out.blk.cell 0;have d1:=lY.out.blk.cell 1;have sZ:=fun q=>wX (lY.out.drewN q) haj hj;have hk1:(a:Int)≤(r:Int):=(by omega);have hk2:(r:Int)≤(c:Int):=(by have:=lY.out.cap;omega);have Q3:(0:Int)≤(a:Int):=(by omega);have hds:∀ d∈aO L a r,eV d=true:=(by rw [Cm.out];exact qd _);have HDS:=Lib.hid hds;have VI:(aO L a r).length=r - a:=(by unfold aO;rw [List.length_take,List.length_drop];omega);have hsz:(runesBytes (aO L a r)).size=r - a:=(by rw [vQ (pK hds),VI]);have Ft:=Lib.hid (fB (pK hds));generalize runesBytes (aO L a r)=s at *;clear hds;go_wp2_with fail;go_quiet (fail);have HJQ:=Lib.hid (lY.out.drewN nq);have Wp:=Lib.hid (bW.out.trans (bM.drewN w3 C nq));generalize w3.drewN nq=wq at HJQ Wp ⊢;generalize (if c=a then some ({ block:=b,off:=off }:Addr)else some { block:=b,off:=off+a })=Z;clear sZ d0 d1 lY bW HJ HB nU hk1 hk2 Q3;rcases (show r - a<1∨6<r - a∨(1≤r - a∧r - a≤6) by omega)with l8 | l8 | ⟨Lr,PJ⟩
  ·have hz:s.size=0:=(by omega);have HF:=Lib.hid (fun(W:World)=>b8 2 a W);go_wp2_with fail;refine(HF.out _).mono ?_;rintro e w5 ⟨rfl,rfl⟩;go_wp2_with fail;rw [show R=_ from fI.out.symm.trans (IF TV.out lU.out (.inl l8))];exact⟨rfl,rfl,Wp.out⟩
  ·have HF:=Lib.hid (fun(W:World)=>b8 2 a W);have hq1:decide ((s.size:Int)<1)=false:=decide_eq_false (by omega);have I5:decide ((6:Int)<(s.size:Int))=true:=decide_eq_true (by omega);go_wp2_with fail;refine(HF.out _).mono ?_;rintro e w5 ⟨rfl,rfl⟩;go_wp2_with fail;rw [show R=_ from fI.out.symm.trans (IF TV.out lU.out (.inr l8))];exact⟨rfl,rfl,Wp.out⟩
  have hq1:decide ((s.size:Int)<1)=false:=decide_eq_false (by omega);have I5:decide ((6:Int)<(s.size:Int))=false:=decide_eq_false (by omega);have HN:=Lib.hid (fE wq C _ n c L r 125 HJQ.out (by decide));have JX:=Lib.hid (show ¬(r - a<1∨6<r - a) by omega);cases hn2:aU L r 125 with
  | error e0=>
   obtain⟨x,p⟩:=e0;rw [hn2]at HN;go_wp2_with fail;refine HN.out.mono ?_;rintro e w5 ⟨he,hb⟩;unfold aV at he;subst he;have Ho:=Lib.hid (Wp.out.trans hb);clear hb HN;go_wp2_with fail;rw [show R=_ from fI.out.symm.trans (Qe TV.out lU.out JX.out hn2)];exact⟨rfl,rfl,Ho.out⟩
  | ok k=>
   rw [hn2]at HN;have IC:=Lib.hid hn2;obtain⟨x0,x1⟩:=nA (l:=aO L a r) HDS.out (by omega);have HPI:=Lib.hid (fun(W:World)=>KH s (aO L a r) W Ft.out HDS.out (by omega) (by omega));generalize hX:ew (aO L a r)=X at *;have Px:=Lib.hid hX;clear hX hn2;go_wp2_with fail;refine HN.out.mono ?_;rintro e w5 ⟨rfl,mg,eH⟩;have tc:=Lib.hid mg;have eK:=Lib.hid (Wp.out.trans eH);clear mg eH;go_wp2_with fail;refine(HPI.out _).mono ?_;rintro e w6 ⟨rfl,fH⟩;have FA:=Lib.hid (tc.out.below fH);have iS:=Lib.hid (eK.out.trans (bM.below C fH));clear fH;by_cases hbig:1114111<X
   ·have HF:=Lib.hid (fun(W:World)=>b8 3 i W);go_wp2_with fail;refine(HF.out _).mono ?_;rintro e w7 ⟨rfl,rfl⟩;go_wp2_with fail;rw [show R=_ from fI.out.symm.trans (Qh TV.out lU.out JX.out IC.out (by rw [Px.out];exact hbig))];exact⟨rfl,rfl,iS.out⟩
   have hwx:IntKind.i32.wrap X=X:=IntWalk.i32_in _ (by omega);go_wp2_with fail;go_ret;rw [show R=_ from fI.out.symm.trans (Tv TV.out lU.out JX.out IC.out (by rw [Px.out];omega)),Px.out];exact⟨rfl,FA.out,iS.out⟩
theorem DS {L:List Int} {i:Nat} (h:cY (pk L i)=true):cX L i=.ok (pk L i,i+1):=by unfold cX;rw [if_pos h]
theorem OD {L:List Int} {i:Nat} (h:cY (pk L i)=false) (h2:pk L i≠92):cX L i=.error (2,i):=by unfold cX;rw [if_neg (by rw [h];decide),if_pos h2]
theorem Ld {L:List Int} {i:Nat} (h2:pk L i=92):cX L i=if pk L (i+1)=110 then .ok (10,i+2)
  else if pk L (i+1)=116 then .ok (9,i+2)
  else if pk L (i+1)=117 then kO L (i+1)
  else if pk L (i+1)<0∨GO (pk L (i+1))=true then .error (2,i+1)
  else .ok (pk L (i+1),i+2):=by
 unfold cX;rw [if_neg (by rw [h2];decide),if_neg (by rw [h2];decide)]
theorem Es (r:Int):GO r=true↔(48≤r∧r≤57)∨(97≤r∧r≤122)∨(65≤r∧r≤90):=by
 unfold GO;simp only [Bool.or_eq_true,Bool.and_eq_true,decide_eq_true_eq]
theorem ax.step {w:World} {C:Nat} {A:Option Addr} {n c:Nat} {L:List Int} {i:Nat} (h:ax w C A n c L i) (hi:i<n) :
    w.cell? ⟨C,1,none⟩=some (.int .i64 i)∧w.frozen? ⟨C,1,none⟩=false∧ax (w.setCell ⟨C,1,none⟩ (.int .i64 ((i:Int)+1))) C A n c L (i+1)∧bM w C (w.setCell ⟨C,1,none⟩ (.int .i64 ((i:Int)+1))):=by
 have hm:=h.move (j:=i+1) hi;rw [show(((i+1:Nat)):Int)=(i:Int)+1 by omega]at hm;exact⟨h.blk.cell 1,h.blk.frozen 1,hm,bM.set w C 1 _⟩
theorem EJ (w:World) (C:Nat) (A:Option Addr) (n c:Nat) (L:List Int) (i:Nat) (h:ax w C A n c L i) (hL:gL L) :
    Calls Tryz.prog 127 #[.pointer (some ⟨C,0,none⟩)] w (EM w C A n c L (cX L i)):=by
 have hs:=h.size;have hlen:=h.len;have HL:=Lib.hid hL;have HC:=Lib.hid h;have iA:=Lib.hid (fun(W:World) (k:Nat) (h:ax W C A n c L k)=>mJ W C A n c L k h);have uH:=Lib.hid (fun(W:World) (k:Nat)=>pF (pk L k) W (hL.pk k));have hw1:IntKind.i64.wrap ((i:Int)+1)=(i:Int)+1:=wrap_small _ (by have:=h.le;omega) (by have:=h.le;omega);have hle:=h.le;clear h hL;obtain⟨R,hR⟩:∃ R,cX L i=R:=⟨_,rfl⟩;rw [hR];have fI:=Lib.hid hR;clear hR;cases hp:cY (pk L i)with
 | true=>
  have hlt:i<L.length:=bw (fun e=>by rw [e]at hp;exact absurd hp (by decide));have i6:=Lib.hid (show R=.ok (pk L i,i+1) from fI.out.symm.trans (DS hp));have MG:=Lib.hid (fun(W:World)=>show Calls Tryz.prog 122 #[.int .i32 (pk L i)] W fun e w'=>e=.returned (.bool true)∧Below W.heap.size W w' by have:=uH.out W i;rwa [hp]at this);clear hp;go_enter Tryz.func127,Tryz.ntmps127;go_wp2_with fail;refine(iA.out _ _ HC.out).mono ?_;rintro e w1 ⟨rfl,m,rfl⟩;go_wp2_with fail;refine(MG.out _).mono ?_;rintro e w2 ⟨rfl,hb⟩;have qy:=Lib.hid ((HC.out.drewN m).below hb);have aW:=Lib.hid ((bM.drewN w C m).trans (bM.below C hb));clear hb;obtain⟨d1,d2,d3,d4⟩:=qy.out.step (by omega);have rm:=Lib.hid d3;have bW:=Lib.hid (aW.out.trans d4);clear d3 d4;go_wp2_with fail;go_ret;rw [i6.out];exact⟨rfl,rm.out,bW.out⟩
 | false=>
  have MG:=Lib.hid (fun(W:World)=>show Calls Tryz.prog 122 #[.int .i32 (pk L i)] W fun e w'=>e=.returned (.bool false)∧Below W.heap.size W w' by have:=uH.out W i;rwa [hp]at this);by_cases yE:pk L i=92
  ·have hlt:i<L.length:=bw (by omega);have Fk:=Lib.hid (fI.out.symm.trans (Ld yE));have tw:=Lib.hid (fun(W:World) (h:ax W C A n c L i)=>show Calls Tryz.prog 58 #[.pointer (some ⟨C,0,none⟩)] W fun e w'=>e=.returned (.int .i32 92)∧∃ m,w'=W.drewN m by have:=iA.out W i h;rwa [yE]at this);rw [yE]at MG;clear hp yE;go_enter Tryz.func127,Tryz.ntmps127;go_wp2_with fail;refine(tw.out _ HC.out).mono ?_;rintro e w1 ⟨rfl,m,rfl⟩;go_wp2_with fail;refine(MG.out _).mono ?_;rintro e w2 ⟨rfl,hb⟩;have qy:=Lib.hid ((HC.out.drewN m).below hb);have aW:=Lib.hid ((bM.drewN w C m).trans (bM.below C hb));clear hb;obtain⟨d1,d2,d3,d4⟩:=qy.out.step (by omega);have rm:=Lib.hid d3;have bW:=Lib.hid (aW.out.trans d4);clear d3 d4;go_wp2_with fail;refine(iA.out _ _ rm.out).mono ?_;rintro e w3 ⟨rfl,m3,GH⟩;have zO:=Lib.hid (rm.out.drewN m3);have eM:=Lib.hid (bW.out.trans (bM.drewN _ C m3));rw [← GH]at zO eM;clear GH d1 d2;have Dj:IntKind.i64.wrap ((i:Int)+1+1)=(i:Int)+1+1:=wrap_small _ (by omega) (by omega);have abn:=xP HL.out.ok (i+1);have Ly:=Lib.hid (fun(W:World) (hc:ax W C A n c L (i+1)) (hlt:i+1<n)=>Qg W C A n c L (i+1) hc HL.out hlt);have hcast:((i+1:Nat):Int)=(i:Int)+1:=(by omega);generalize hr:pk L (i+1)=r at *;by_cases h1:r=110
   ·subst h1;have hlt2:i+1<n:=(by rw [← hlen];exact bw (by omega));have i6:=Lib.hid (show R=.ok (10,i+2) from Fk.out);obtain⟨d1,d2,d3,d4⟩:=zO.out.step hlt2;rw [hcast]at d1 d3 d4;have tc:=Lib.hid d3;have eK:=Lib.hid (eM.out.trans d4);clear d3 d4 Fk hr;go_wp2_with fail;go_ret;rw [i6.out];exact⟨rfl,tc.out,eK.out⟩
   by_cases h2:r=116
   ·subst h2;have hlt2:i+1<n:=(by rw [← hlen];exact bw (by omega));have i6:=Lib.hid (show R=.ok (9,i+2) from Fk.out);obtain⟨d1,d2,d3,d4⟩:=zO.out.step hlt2;rw [hcast]at d1 d3 d4;have tc:=Lib.hid d3;have eK:=Lib.hid (eM.out.trans d4);clear d3 d4 Fk hr;go_wp2_with fail;go_ret;rw [i6.out];exact⟨rfl,tc.out,eK.out⟩
   by_cases h3:r=117
   ·subst h3;have hlt2:i+1<n:=(by rw [← hlen];exact bw (by omega));have i6:=Lib.hid (show R=kO L (i+1) from Fk.out);have HX:=Lib.hid (Ly.out _ zO.out hlt2);clear Fk hr Ly;cases hx:kO L (i+1)with
    | error e0=>
     obtain⟨x,p⟩:=e0;rw [hx]at HX;have iW:=Lib.hid (i6.out.trans hx);clear hx;go_wp2_with fail;refine HX.out.mono ?_;rintro e w5 ⟨he,hb⟩;unfold aV at he;subst he;have eK:=Lib.hid (eM.out.trans hb);clear hb;go_wp2_with fail;rw [iW.out];exact⟨rfl,rfl,eK.out⟩
    | ok q=>
     obtain⟨x,p⟩:=q;rw [hx]at HX;have iW:=Lib.hid (i6.out.trans hx);clear hx;go_wp2_with fail;refine HX.out.mono ?_;rintro e w5 ⟨rfl,hc,hb⟩;have tc:=Lib.hid hc;have eK:=Lib.hid (eM.out.trans hb);clear hb hc;go_wp2_with fail;go_ret;rw [iW.out];exact⟨rfl,tc.out,eK.out⟩
   have PM:=Lib.hid (show R=if r<0∨GO r=true then .error (2,i+1)else .ok (r,i+2) by rw [Fk.out,if_neg h1,if_neg h2,if_neg h3]);have q1:(r == 110)=false:=(by simp;exact h1);have q2:(r == 116)=false:=(by simp;exact h2);have q3:(r == 117)=false:=(by simp;exact h3);clear Fk h1 h2 h3 Ly;by_cases l8:r<0∨GO r=true
   ·have i6:=Lib.hid (show R=.error (2,i+1) by rw [PM.out,if_pos l8]);have d1:=zO.out.blk.cell 1;have hcell:w3.cell? ⟨C,1,none⟩=some (.int .i64 ((i:Int)+1)):=(by rw [← hcast];exact d1);have HF:=Lib.hid (fun(W:World)=>b8 2 ((i:Int)+1) W);rw [Es]at l8;clear PM d1;rcases (show r<0∨(48≤r∧r≤57)∨(97≤r∧r≤122)∨(65≤r∧r≤90) by omega)with h1 | ⟨h1,h2⟩ | ⟨h1,h2⟩ | ⟨h1,h2⟩
    all_goals
      clear l8
      go_wp2_with fail
      refine(HF.out _).mono ?_
      rintro e w5 ⟨rfl,rfl⟩
      go_wp2_with fail
      rw [i6.out]
      exact⟨rfl,by rw [aV,hcast],eM.out⟩
   have i6:=Lib.hid (show R=.ok (r,i+2) by rw [PM.out,if_neg l8]);rw [Es]at l8;have hlt2:i+1<n:=(by rw [← hlen];exact bw (by omega));obtain⟨d1,d2,d3,d4⟩:=zO.out.step hlt2;rw [hcast]at d1 d3 d4;have tc:=Lib.hid d3;have eK:=Lib.hid (eM.out.trans d4);clear d3 d4 PM hr;rcases (show(0≤r∧r<48)∨(57<r∧r<65)∨(90<r∧r<97)∨122<r by omega)with ⟨h1,h2⟩ | ⟨h1,h2⟩ | ⟨h1,h2⟩ | h1
   all_goals
     clear l8
     go_wp2_with fail
     go_ret
     rw [i6.out]
     exact⟨rfl,tc.out,eK.out⟩
  have i6:=Lib.hid (show R=.error (2,i) from fI.out.symm.trans (OD hp yE));have afc:(pk L i != 92)=true:=(by simp [yE]);clear hp;go_enter Tryz.func127,Tryz.ntmps127;go_wp2_with fail;refine(iA.out _ _ HC.out).mono ?_;rintro e w1 ⟨rfl,m,rfl⟩;go_wp2_with fail;refine(MG.out _).mono ?_;rintro e w2 ⟨rfl,hb⟩;have qy:=Lib.hid ((HC.out.drewN m).below hb);have aW:=Lib.hid ((bM.drewN w C m).trans (bM.below C hb));clear hb;have d1:=qy.out.blk.cell 1;go_wp2_with fail;refine(b8 2 i _).mono ?_;rintro e w3 ⟨rfl,rfl⟩;go_wp2_with fail;rw [i6.out];exact⟨rfl,rfl,aW.out⟩
theorem C9 (W:World) (v:Value):(Instr.typeAssert (.iface 119 v) 20 119 true).run Tryz.prog W=.ok (.tuple #[v,.bool true]) W:=by kernel_rfl
theorem EL (f:Addr) (w:World) :
    CallsD Tryz.prog 55 #[.pointer (some f)] .returning w fun e u' w'=>e=.returned (.tuple #[])∧u'=.returning∧w'=w:=by
 refine callsD_of_wpS Tryz.func55 rfl fun c₀ cs hu=>?_;apply wpS_seq;apply wpS_region;simp [wpOpsS,go_sem,recoverD,hu,Tryz.ntmps55,Exit.thenS];refine wpS_of_wp ?_;go_wp2_with fail;cases c₀;simp_all [bodyPostS,results,Tryz.results55]
theorem zj (f:Nat) (x p a b:Int) (t:TypeId) (older:List PanicEntry) (w:World) (hf:ak w f t #[.int .i64 a,.int .i64 b]) :
    CallsD Tryz.prog 55 #[.pointer (some ⟨f,0,none⟩)] (.panicking ({ v:=.iface 119 (.agg #[.int .i64 x,.int .i64 p]),recovered:=false } :: older)) w fun e u' w'=>
      e=.returned (.tuple #[])∧u'=.panicking ({ v:=.iface 119 (.agg #[.int .i64 x,.int .i64 p]),recovered:=true } :: older)∧ak w' f t #[.int .i64 x,.int .i64 p]∧bM w f w':=by
 have f0:=hf.frozen 0;have f1:=hf.frozen 1;have c0:=hf.cell 0;have c1:=hf.cell 1;refine callsD_of_wpS Tryz.func55 rfl fun c₀ cs hu=>?_;apply wpS_seq;apply wpS_region;simp [wpOpsS,go_sem,recoverD,hu,Tryz.ntmps55,Exit.thenS];refine wpS_of_wp ?_;have e (V:Value):(#[Value.pointer (some ⟨f,0,none⟩)]++(Array.replicate 14 undef).setIfInBounds 4 V) = #[.pointer (some ⟨f,0,none⟩),undef,undef,undef,undef,V,undef,undef,undef,undef,undef,undef,undef,undef,undef]:=rfl;rw [e];have hlt:=hf.lt;have hta:=fun(W:World) (v:Value)=>C9 W v;go_wp2_with fail;have hB:ak (((w.setCell ⟨f,0,none⟩ (.int .i64 x)).setCell ⟨f,1,none⟩ (.int .i64 p)).alloc (.cells #[.int .i64 x,.int .i64 p] 119)) f t #[.int .i64 x,.int .i64 p]:=((hf.put 0 _).put 1 _).alloc _;have hS:bM w f (((w.setCell ⟨f,0,none⟩ (.int .i64 x)).setCell ⟨f,1,none⟩ (.int .i64 p)).alloc (.cells #[.int .i64 x,.int .i64 p] 119)):=((bM.set w f 0 _).trans (bM.set _ f 1 _)).trans (bM.below f ((Below.refl _ _).alloc (Nat.le_refl _) _));simp [bodyPostS,results,Tryz.results55,hB,hS]
end Go.Proofs.YtapechjebkjidaaGreatDoor
