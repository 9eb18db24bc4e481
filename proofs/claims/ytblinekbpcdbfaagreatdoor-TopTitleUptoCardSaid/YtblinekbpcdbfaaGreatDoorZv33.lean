/- Cursor + CurFail + CurSkip + CurPlain + CurHex + CurChar + Caught -/
import Derived.Test.YtblinekbpcdbfaaGreatDoorZv31
import Derived.Test.YtblinekbpcdbfaaGreatDoorZv22
import Derived.Test.YtblinekbpcdbfaaGreatDoorZv9
import Derived.Defers
import Derived.Recover
set_option maxHeartbeats 3200000
set_option maxRecDepth 100000
namespace Go.Proofs.YtblinekbpcdbfaaGreatDoor
open Go.RowKit
def mP (w:World) (g:Nat) (cs:Array Value):Prop:=∃ t,aj w g t cs
section
variable {w w' : World} {g : Nat} {cs : Array Value}
theorem mP.lt (h:mP w g cs):g<w.heap.size:=let ⟨_,hb⟩:=h;hb.lt
theorem mP.cell (h:mP w g cs) (i:Nat):w.cell? ⟨g,i,none⟩=cs[i]?:=let ⟨_,hb⟩:=h;hb.cell i
theorem mP.frozen (h:mP w g cs) (i:Nat):w.frozen? ⟨g,i,none⟩=false:=let ⟨_,hb⟩:=h;hb.frozen i
theorem mP.drewN (h:mP w g cs) (n:Nat):mP (w.drewN n) g cs:=h
theorem mP.put (h:mP w g cs) (i:Nat) (u:Value):mP (w.setCell ⟨g,i,none⟩ u) g (cs.setIfInBounds i u):=let ⟨t,hb⟩:=h;⟨t,hb.put i u⟩
theorem mP.below {B:Nat} (h:mP w g cs) (hb:Below B w w') (hg:g<B):mP w' g cs:=let ⟨t,hc⟩:=h;⟨t,hc.below hb hg⟩
theorem mP.same (h:mP w g cs) (he:w'.heap[g]? = w.heap[g]?):mP w' g cs:=let ⟨t,hc⟩:=h;⟨t,he.trans hc⟩
end
structure av (w:World) (C:Nat) (A:Option Addr) (n c:Nat) (L:List Int) (i:Nat):Prop where
  blk:mP w C #[.slice A n c,.int .i64 i]
  row:cV w (fun b=>b≠C) 1 A n (runeCells L)
  size:n≤4611686018427387904
  le:i≤n
  cap:n≤c
theorem av.len {w:World} {C:Nat} {A:Option Addr} {n c:Nat} {L:List Int} {i:Nat} (h:av w C A n c L i):L.length=n:=by
 have:=h.row.1;rw [runeCells_length]at this;omega
theorem av.drewN {w:World} {C:Nat} {A:Option Addr} {n c:Nat} {L:List Int} {i:Nat} (h:av w C A n c L i) (k:Nat):av (w.drewN k) C A n c L i :=
  ⟨h.blk.drewN k,h.row.keep (ag.any (below_drewN qqb k)),h.size,h.le,h.cap⟩
theorem Di (w:World) (C:Nat) (A:Option Addr) (n c:Nat) (L:List Int) (i k:Nat) (h:av w C A n c L i) (hk:k≤1000) :
    Calls Tryz.prog 51 #[.pointer (some ⟨C,0,none⟩),.int .i64 k] w fun e w'=>e=.returned (.int .i32 (pk L (i+k)))∧∃ m,w'=w.drewN m:=by
 have c0:=h.blk.cell 0;have c1:=h.blk.cell 1;have hl:=h.len;have hs:=h.size;have hi:=h.le;have hw1:IntKind.i64.wrap ((i:Int)+k)=((i+k:Nat):Int):=(by rw [wrap_small _ (by omega) (by omega)];omega);by_cases hlt:i+k<n
 ·obtain⟨x,hx⟩:∃ x,L[i+k]? = some x:=⟨_,List.getElem?_eq_getElem (by omega)⟩;rw [GH hx];obtain⟨b,o,rfl,_,_,hc⟩:=h.row.2 (by omega);have d0:w.cell? ⟨b,o+(i+k),none⟩=some (.int .i32 x):=hc _ _ (by simp [runeCells,hx]);have hg:decide ((n:Int)≤((i+k:Nat):Int))=false:=decide_eq_false (by omega);have hk0:(0:Int)≤((i+k:Nat):Int):=(by omega);have hk1:((i+k:Nat):Int)<(n:Int):=(by omega);clear hc h hx hl;go_enter Tryz.func51,Tryz.ntmps51;go_wp2_with fail;go_quiet (fail);go_wp2_with fail;go_quiet (fail);go_wp2_with fail;go_ret;exact⟨rfl,_,by rw [World.drewN_drewN]⟩
 rw [pV (by omega)];have hg:decide ((n:Int)≤((i+k:Nat):Int))=true:=decide_eq_true (by omega);clear h hl;go_enter Tryz.func51,Tryz.ntmps51;go_wp2_with fail;go_quiet (fail);go_wp2_with fail;go_ret;exact⟨rfl,_,rfl⟩
theorem l9 (w:World) (C:Nat) (A:Option Addr) (n c:Nat) (L:List Int) (i:Nat) (h:av w C A n c L i) :
    Calls Tryz.prog 31 #[.pointer (some ⟨C,0,none⟩)] w fun e w'=>e=.returned (.int .i32 (pk L i))∧∃ m,w'=w.drewN m:=by
 have HL:=qqh (show Calls Tryz.prog 51 #[.pointer (some ⟨C,0,none⟩),.int .i64 0] w fun e w'=>e=.returned (.int .i32 (pk L i))∧∃ m,w'=w.drewN m from Di w C A n c L i 0 h (Nat.zero_le _));clear h;go_enter Tryz.func31,Tryz.ntmps31;go_wp2_with fail;refine HL.out.mono ?_;rintro e w1 ⟨rfl,hm⟩;go_wp2_with fail;go_ret;exact⟨rfl,hm⟩
theorem bT (e p:Int) (w:World) :
    Calls Tryz.prog 29 #[.int .i64 e,.int .i64 p] w fun en w'=>en=.panicked [{ v:=.iface 114 (.agg #[.int .i64 e,.int .i64 p]),recovered:=false }]∧w'=w:=by
 go_enter Tryz.func29,Tryz.ntmps29;go_wp2_with fail;exact⟨rfl,rfl,rfl⟩
theorem su (r:Int) (w:World) :
    Calls Tryz.prog 79 #[.int .i32 r] w fun e w'=>e=.returned (.bool (pX r))∧w'=w:=by
 go_enter Tryz.func79,Tryz.ntmps79;go_wp2;(all_goals go_ret);(all_goals refine⟨bH ?_,rfl⟩);(all_goals (rw [Bool.eq_iff_iff];simp [pX];try omega))
def aS (e p:Int):Ending:=.panicked [{ v:=.iface 114 (.agg #[.int .i64 e,.int .i64 p]),recovered:=false }]
theorem av.move {w:World} {C:Nat} {A:Option Addr} {n c:Nat} {L:List Int} {i j:Nat} (h:av w C A n c L i) (hj:j≤n):av (w.setCell ⟨C,1,none⟩ (.int .i64 j)) C A n c L j :=
  ⟨h.blk.put 1 _,h.row.keep (ag.setCell (p:=⟨C,1,none⟩) _ (fun _ hb=>hb) (fun _ h _=>h)),h.size,hj,h.cap⟩
theorem fc (w:World) (C:Nat) (A:Option Addr) (n c:Nat) (L:List Int) (i:Nat) (r:Int) (h:av w C A n c L i) (hr:r ≠ -1) :
    Calls Tryz.prog 33 #[.pointer (some ⟨C,0,none⟩),.int .i32 r] w fun e w'=>
      match aQ L i r with
      | .ok j=>e=.returned (.tuple #[])∧av w' C A n c L j∧bF w C w'
      | .error (x,p)=>e=aS x p∧bF w C w':=by
 have ie:=qqh (l9 w C A n c L i h);have HC:=qqh h;have hs:=h.size;have hi:=h.le;have hl:=h.len;have hw1:IntKind.i64.wrap ((i:Int)+1)=((i+1:Nat):Int):=(by rw [wrap_small _ (by omega) (by omega)];omega);clear h;unfold aQ;by_cases he:pk L i=r
 ·have hlt:i<L.length:=bl (by omega);rw [if_pos he];have hg:decide (pk L i=r)=true:=decide_eq_true he;go_enter Tryz.func33,Tryz.ntmps33;go_wp2_with fail;refine ie.out.mono ?_;rintro e w1 ⟨rfl,m,rfl⟩;have jL:=qqh (HC.out.drewN m);have c0:=jL.out.blk.cell 0;have c1:=jL.out.blk.cell 1;have f1:=jL.out.blk.frozen 1;go_wp2_with fail;have hm:=jL.out.move (j:=i+1) (by omega);rw [show(((i+1:Nat)):Int)=(i:Int)+1 by omega]at hm;go_end0;exact⟨rfl,hm,(bF.drewN w C m).trans (bF.set _ C 1 _)⟩
 rw [if_neg he];go_enter Tryz.func33,Tryz.ntmps33;go_wp2_with fail;refine ie.out.mono ?_;rintro e w1 ⟨rfl,m,rfl⟩;have jL:=qqh (HC.out.drewN m);have c0:=jL.out.blk.cell 0;have c1:=jL.out.blk.cell 1;go_wp2_with fail;refine(bT 2 i _).mono ?_;rintro e w2 ⟨rfl,rfl⟩;go_wp2_with fail;exact⟨rfl,rfl,bF.drewN w C m⟩
theorem iQ (w:World) (C:Nat) (A:Option Addr) (n c:Nat) (L:List Int) (i:Nat) (h:av w C A n c L i) :
    Calls Tryz.prog 50 #[.pointer (some ⟨C,0,none⟩)] w fun e w'=>e=.returned (.tuple #[])∧av w' C A n c L (aN L i)∧bF w C w':=by
 have HC:=qqh h;have hs:=h.size;have hl:=h.len;clear h;go_enter Tryz.func50,Tryz.ntmps50;go_wp2_with fail;go_loopw [2] (fun _ wr=>∃ j,j≤n∧aN L i=aN L j∧av wr C A n c L j∧bF w C wr) (fun _ wr=>n - (match wr.cell? ⟨C,1,none⟩with | some (.int _ j)=>j.toNat | _=>0));(case atStart=>exact⟨i,HC.out.le,rfl,HC.out,bF.refl _ _⟩);obtain⟨j,hj,lE,hc,hb⟩:=hrel;have HJ:=qqh hc;have HB:=qqh hb;have HS:=qqh lE;have ie:=qqh (l9 wr C A n c L j hc);have hm0:=hc.blk.cell 1;have mC:=qqh hm0;have hw1:IntKind.i64.wrap ((j:Int)+1)=((j+1:Nat):Int):=(by rw [wrap_small _ (by omega) (by omega)];omega);clear hc hb lE hm0;go_wp2_with fail;refine ie.out.mono ?_;rintro e w1 ⟨rfl,m,rfl⟩;have jL:=qqh (HJ.out.drewN m);go_wp2_with fail;refine(su _ _).mono ?_;rintro e w2 ⟨rfl,rfl⟩;by_cases fq:pX (pk L j)=true
 ·rw [fq];have hlt:j<L.length:=bl (fun e=>by rw [e]at fq;exact absurd fq (by decide));have c0:=jL.out.blk.cell 0;have c1:=jL.out.blk.cell 1;have f1:=jL.out.blk.frozen 1;have Ss:=jL.out.move (j:=j+1) (by omega);rw [show(((j+1:Nat)):Int)=(j:Int)+1 by omega]at Ss;have uC:=qqh Ss;clear Ss;go_wp2_with fail;refine⟨⟨j+1,by omega,HS.out.trans (dL hlt fq),uC.out,(HB.out.trans (bF.drewN wr C m)).trans (bF.set _ C 1 _)⟩,?_⟩;have e1:((wr.drewN m).setCell ⟨C,1,none⟩ (.int .i64 ((j:Int)+1))).cell? ⟨C,1,none⟩=some (.int .i64 ((j+1:Nat):Int)):=uC.out.blk.cell 1;have e2:wr.cell? ⟨C,1,none⟩=some (.int .i64 (j:Int)):=mC.out;rw [e1,e2];simp only [Int.toNat_natCast];omega
 rw [Bool.not_eq_true]at fq;rw [fq];go_wp2_with fail;go_end0;refine⟨rfl,?_,HB.out.trans (bF.drewN wr C m)⟩;rw [HS.out,show aN L j=j from cF (fun _=>fq)];exact jL.out
def Gg (r:Int):Prop:=r = -1∨Utf8.valid r=true
def rI:ByteArray:=⟨#[91,93,38,45,94,92,58,36,40,41,123,125,60,62,124,59,35,39,34,61,44]⟩
theorem DY (r:Int):(rI.data.toList.any fun b=>decide ((b.toNat:Int)=r))=rS.contains r:=by
 rw [Bool.eq_iff_iff];simp [rI,rS];omega
theorem oI (r:Int) (w:World) (hr:Gg r) :
    Calls Tryz.prog 103 #[.int .i32 r] w fun e w'=>e=.returned (.bool (cQ r))∧Below w.heap.size w w':=by
 have HS:=qqh (show Calls Tryz.prog 124 #[.string rI,.int .i32 r] w fun e w'=>e=.returned (.bool (rS.contains r))∧Below w.heap.size w w' by
  have:=pG rI r w (by decide) (by decide) (by decide) hr;rw [DY]at this;exact this)
 clear hr;unfold cQ;by_cases h0:0≤r
 ·have hd:decide (0≤r)=true:=decide_eq_true h0;rw [hd];cases hb:pX r
  ·go_enter Tryz.func103,Tryz.ntmps103;go_wp2_with fail;refine(su _ _).mono ?_;rintro e w1 ⟨rfl,hw⟩;rw [hw,hb];go_wp2_with fail;refine HS.out.mono ?_;rintro e w2 ⟨rfl,aX⟩;go_wp2_with fail;go_ret;exact⟨by simp,aX⟩
  go_enter Tryz.func103,Tryz.ntmps103;go_wp2_with fail;refine(su _ _).mono ?_;rintro e w1 ⟨rfl,hw⟩;rw [hw,hb];go_wp2_with fail;go_ret;exact⟨by simp,qqb⟩
 have hd:decide (0≤r)=false:=decide_eq_false h0;rw [hd];go_enter Tryz.func103,Tryz.ntmps103;go_wp2_with fail;go_ret;exact⟨by simp,qqb⟩
def fZ (L:List Int):Prop:=∀ x∈L,Utf8.valid x=true
theorem fZ.ok {L:List Int} (h:fZ L):cR L:=fun x hx=>by
 have:=h x hx;simp [Utf8.valid]at this;omega
theorem fZ.pk {L:List Int} (h:fZ L) (i:Nat):Gg (pk L i):=by
 unfold Go.Proofs.YtblinekbpcdbfaaGreatDoor.pk;cases hi:L[i]? with
 | none=>exact .inl rfl
 | some x=>exact .inr (h x (List.mem_of_getElem? hi))
theorem av.at {w:World} {C:Nat} {A:Option Addr} {n c:Nat} {L:List Int} {i:Nat} (h:av w C A n c L i) (h0:0<n) :
    ∃ b off,A=some ⟨b,off,none⟩∧b<w.heap.size∧∀ j x,L[j]? = some x→w.cell? ⟨b,off+j,none⟩=some (.int .i32 x):=by
 obtain⟨b,off,e,_,hb,hc⟩:=h.row.2 h0;exact⟨b,off,e,hb,fun j x hx=>hc j _ (by rw [dU,hx];rfl)⟩
theorem vv {w:World} {C:Nat} {b off n c:Nat} {L:List Int} {k:Nat} (h:av w C (some ⟨b,off,none⟩) n c L k) {i j:Nat} (hij:i≤j) (hj:j≤n) :
    (convert 24 9 (.slice (if c=i then some ⟨b,off,none⟩else some ⟨b,off+i,none⟩) (j - i) (c - i))).run Tryz.prog w=.ok (.string (runesBytes (aM L i j))) w:=by
 have hlen:=h.len;have hcap:=h.cap;by_cases hn:0<n
 ·obtain⟨b',off',e,_,hc⟩:=h.at hn;cases e;have key:∀ (o:Nat),o=off+i∨j - i=0→(convert 24 9 (.slice (some ⟨b,o,none⟩) (j - i) (c - i))).run Tryz.prog w=.ok (.string (runesBytes (aM L i j))) w:=by
   intro o ho;rcases ho with rfl | ho
   ·have:=run_convert_runes (P:=Tryz.prog) w 24 9 21 ⟨b,off+i,none⟩ (j - i) (c - i) (aM L i j) (by unfold aM;rw [List.length_take,List.length_drop];omega) Tryz.underlying24 Tryz.underlying21 Tryz.underlying9 (fun q hq=>by
     rw [gz,Nat.add_assoc];unfold aM at hq ⊢;rw [List.length_take,List.length_drop]at hq;refine hc (i+q) _ ?_;rw [List.getD_eq_getElem?_getD,List.getElem?_take_of_lt (by omega),List.getElem?_drop];rw [List.getElem?_eq_getElem (by omega)];rfl)
    rw [show(aM L i j).take (j - i)=aM L i j from List.take_of_length_le (by unfold aM;rw [List.length_take];omega)]at this;exact this
   have:=run_convert_runes (P:=Tryz.prog) w 24 9 21 ⟨b,o,none⟩ (j - i) (c - i) [] (by rw [ho];simp) Tryz.underlying24 Tryz.underlying21 Tryz.underlying9 (fun q hq=>by simp at hq);rw [show([]:List Int).take (j - i)=aM L i j by unfold aM;rw [ho];simp]at this;exact this
  split;exact key _ (.inr (by omega));exact key _ (.inl rfl)
 have:=run_convert_runes (P:=Tryz.prog) w 24 9 21 (if c=i then ⟨b,off,none⟩else ⟨b,off+i,none⟩) (j - i) (c - i) [] (by rw [show j - i=0 by omega];simp) Tryz.underlying24 Tryz.underlying21 Tryz.underlying9 (fun q hq=>by simp at hq);have e:(if c=i then some (⟨b,off,none⟩:Addr)else some ⟨b,off+i,none⟩)=some (if c=i then (⟨b,off,none⟩:Addr)else ⟨b,off+i,none⟩):=(by split <;> rfl);rw [show([]:List Int).take (j - i)=aM L i j by unfold aM;rw [show j - i=0 by omega];simp]at this;rw [e];exact this
def Dd (w:World) (C:Nat) (A:Option Addr) (n c:Nat) (L:List Int) (r:jY Int) (e:Ending) (w':World):Prop :=
  match r with
  | .ok (x,j)=>e=.returned (.int .i32 x)∧av w' C A n c L j∧bF w C w'
  | .error (x,p)=>e=aS x p∧bF w C w'
def Pg:ByteArray:=⟨#[48,49,50,51,52,53,54,55,56,57,97,98,99,100,101,102,65,66,67,68,69,70]⟩
theorem Qa (r:Int):(Pg.data.toList.any fun b=>decide ((b.toNat:Int)=r))=eV r:=by
 rw [Bool.eq_iff_iff];simp [Pg,eV];omega
theorem Ai (r:Int) (w:World) (hr:Gg r) :
    Calls Tryz.prog 124 #[.string Pg,.int .i32 r] w fun e w'=>e=.returned (.bool (eV r))∧Below w.heap.size w w':=by
 have:=pG Pg r w (by decide) (by decide) (by decide) hr;rw [Qa]at this;exact this
theorem av.below {w w':World} {C:Nat} {A:Option Addr} {n c:Nat} {L:List Int} {i:Nat} (h:av w C A n c L i) (hb:Below w.heap.size w w'):av w' C A n c L i :=
  ⟨h.blk.below hb h.blk.lt,h.row.keep (ag.any hb),h.size,h.le,h.cap⟩
theorem PM {L:List Int} {i:Nat} {e:Int × Nat} (h:aQ L (i+1) 123=.error e):kU L i=.error e:=by unfold kU;rw [h]
theorem GC {L:List Int} {i a r:Nat} (h:aQ L (i+1) 123=.ok a) (hr:r=az eV L a) (hb:r - a<1∨6<r - a):kU L i=.error (2,a):=by
 subst hr;unfold kU;rw [h];simp only;rw [if_pos hb]
theorem PK {L:List Int} {i a r:Nat} {e:Int × Nat} (h:aQ L (i+1) 123=.ok a) (hr:r=az eV L a) (hb:¬(r - a<1∨6<r - a)) (h2:aQ L r 125=.error e):kU L i=.error e:=by
 subst hr;unfold kU;rw [h];simp only;rw [if_neg hb,h2]
theorem OK {L:List Int} {i a r k:Nat} (h:aQ L (i+1) 123=.ok a) (hr:r=az eV L a) (hb:¬(r - a<1∨6<r - a)) (h2:aQ L r 125=.ok k) (h3:1114111<dY (aM L a r)):kU L i=.error (3,i):=by
 subst hr;unfold kU;rw [h];simp only;rw [if_neg hb,h2];simp only;rw [if_pos h3]
theorem TN {L:List Int} {i a r k:Nat} (h:aQ L (i+1) 123=.ok a) (hr:r=az eV L a) (hb:¬(r - a<1∨6<r - a)) (h2:aQ L r 125=.ok k) (h3:¬ 1114111<dY (aM L a r)):kU L i=.ok (dY (aM L a r),k):=by
 subst hr;unfold kU;rw [h];simp only;rw [if_neg hb,h2];simp only;rw [if_neg h3]
def U2 (w:World) (C:Nat) (A:Option Addr) (n c:Nat) (L:List Int) (a r:Nat) (wr:World):Prop :=
  ∃ j,a≤j∧j≤n∧r=az eV L j∧av wr C A n c L j∧bF w C wr
theorem Qe (w:World) (C:Nat) (A:Option Addr) (n c:Nat) (L:List Int) (i:Nat) (h:av w C A n c L i) (hL:fZ L) (hi:i<n) :
    Calls Tryz.prog 126 #[.pointer (some ⟨C,0,none⟩)] w (Dd w C A n c L (kU L i)):=by
 have hs:=h.size;have hlen:=h.len;obtain⟨b,off,rfl,_,_⟩:=h.at (by omega);have HL:=qqh hL;have c0:=h.blk.cell 0;have c1:=h.blk.cell 1;have f1:=h.blk.frozen 1;have hw1:IntKind.i64.wrap ((i:Int)+1)=((i+1:Nat):Int):=(by rw [wrap_small _ (by omega) (by omega)];omega);have hm:=h.move (j:=i+1) (by omega);have SH:=bF.set w C 1 (.int .i64 ((i+1:Nat):Int));rw [show(((i+1:Nat)):Int)=(i:Int)+1 by omega]at hm SH;have HM:=qqh hm;have bJ:=qqh SH;clear hL hm h SH;obtain⟨R,hR⟩:∃ R,kU L i=R:=⟨_,rfl⟩;rw [hR];have fQ:=qqh hR;clear hR;cases hn:aQ L (i+1) 123 with
 | error e0=>
  obtain⟨x,p⟩:=e0;have HN:=qqh (fc _ C _ n c L (i+1) 123 HM.out (by decide));rw [hn]at HN;go_enter Tryz.func126,Tryz.ntmps126;go_wp2_with fail;refine HN.out.mono ?_;rintro e w1 ⟨he,hb⟩;unfold aS at he;subst he;have xY:=qqh (bJ.out.trans hb);clear hb HN;go_wp2_with fail;rw [show R=_ from fQ.out.symm.trans (PM hn)];exact⟨rfl,rfl,xY.out⟩
 | ok a=>
  have Tf:=qqh hn;obtain⟨rfl,hpk⟩:=fH hn;have HN:=qqh (fc _ C _ n c L (i+1) 123 HM.out (by decide));rw [hn]at HN;have hi1:i+1<n:=(by rw [← hlen];exact bl (by rw [hpk];decide));clear hn;generalize ha:i+1+1=a at *;have Au:=qqh (xH eV L a);generalize hr:az eV L a=r at *;have lH:=qqh hr.symm;clear hr;go_enter Tryz.func126,Tryz.ntmps126;go_wp2_with fail;refine HN.out.mono ?_;rintro e w1 ⟨rfl,hc,hb⟩;have HC:=qqh hc;have bL:=qqh (bJ.out.trans hb);have g0:=hc.blk.cell 0;have g1:=hc.blk.cell 1;clear hb hc HN bJ HM;go_wp2_with fail;go_loopw [25] (fun _ wr=>U2 w C (some ⟨b,off,none⟩) n c L a r wr) (fun _ wr=>n - (match wr.cell? ⟨C,1,none⟩with | some (.int _ j)=>j.toNat | _=>0));(case atStart=>exact⟨a,qql,HC.out.le,lH.out,HC.out,bL.out⟩);obtain⟨j,haj,hj,hrun,tO,AD⟩:=hrel;have HJ:=qqh tO;have HB:=qqh AD;have HR:=qqh hrun;have ie:=qqh (fun(W:World) (h:av W C (some ⟨b,off,none⟩) n c L j)=>l9 W C (some ⟨b,off,none⟩) n c L j h);have mC:=qqh (tO.blk.cell 1);have hok:=HL.out.pk j;have KR:=qqh (fun(W:World)=>Ai (pk L j) W hok);clear tO AD hrun;by_cases Am:eV (pk L j)=true
  ·rw [Am]at KR;have hlt:j<L.length:=bl (fun e=>by rw [e]at Am;exact absurd Am (by decide));have h0:0≤pk L j:=(oJ (l:=[pk L j]) (by simpa using Am) _ (by simp)).1;have hg:decide (0≤pk L j)=true:=decide_eq_true h0;have CS:IntKind.i64.wrap ((j:Int)+1)=((j+1:Nat):Int):=(by rw [wrap_small _ (by omega) (by omega)];omega);go_wp2_with fail;refine(ie.out _ HJ.out).mono ?_;rintro e w2 ⟨rfl,m,rfl⟩;go_wp2_with fail;refine(KR.out _).mono ?_;rintro e w3 ⟨rfl,bP⟩;have lP:=qqh ((HJ.out.drewN m).below bP);have bM:=qqh ((HB.out.trans (bF.drewN wr C m)).trans (bF.below C bP));clear bP;go_wp2_with fail;refine(ie.out _ lP.out).mono ?_;rintro e w4 ⟨rfl,m2,rfl⟩;have jL:=qqh (lP.out.drewN m2);have d0:=jL.out.blk.cell 0;have d1:=jL.out.blk.cell 1;have f2:=jL.out.blk.frozen 1;have Ss:=jL.out.move (j:=j+1) (by omega);rw [show(((j+1:Nat)):Int)=(j:Int)+1 by omega]at Ss;have uC:=qqh Ss;clear Ss;go_wp2_with fail;refine⟨⟨j+1,by omega,by omega,HR.out.trans (dL hlt Am),uC.out,(bM.out.trans (bF.drewN w3 C m2)).trans (bF.set _ C 1 _)⟩,?_⟩;have e1:((w3.drewN m2).setCell ⟨C,1,none⟩ (.int .i64 ((j:Int)+1))).cell? ⟨C,1,none⟩=some (.int .i64 ((j+1:Nat):Int)):=uC.out.blk.cell 1;have e2:wr.cell? ⟨C,1,none⟩=some (.int .i64 (j:Int)):=mC.out;rw [e1,e2];simp only [Int.toNat_natCast];omega
  rw [Bool.not_eq_true]at Am;rw [Am]at KR;obtain rfl:r=j:=HR.out.trans (cF (fun _=>Am));clear HR;go_wp2_with fail;refine(ie.out _ HJ.out).mono ?_;rintro e w2 ⟨rfl,m,rfl⟩;go_wp2_with fail;refine(KR.out _).mono ?_;rintro e w3 ⟨rfl,bP⟩;have lP:=qqh ((HJ.out.drewN m).below bP);have bM:=qqh ((HB.out.trans (bF.drewN wr C m)).trans (bF.below C bP));clear bP;have d0:=lP.out.blk.cell 0;have d1:=lP.out.blk.cell 1;have sZ:=fun q=>vv (lP.out.drewN q) haj hj;have hk1:(a:Int)≤(r:Int):=(by omega);have hk2:(r:Int)≤(c:Int):=(by have:=lP.out.cap;omega);have QM:(0:Int)≤(a:Int):=(by omega);have hds:∀ d∈aM L a r,eV d=true:=(by rw [Au.out];exact pK _);have HDS:=qqh hds;have Wr:(aM L a r).length=r - a:=(by unfold aM;rw [List.length_take,List.length_drop];omega);have hsz:(runesBytes (aM L a r)).size=r - a:=(by rw [uF (oJ hds),Wr]);have zj:=qqh (fl (oJ hds));generalize runesBytes (aM L a r)=s at *;clear hds;go_wp2_with fail;go_quiet (fail);have HJQ:=qqh (lP.out.drewN nq);have VZ:=qqh (bM.out.trans (bF.drewN w3 C nq));generalize w3.drewN nq=wq at HJQ VZ ⊢;generalize (if c=a then some ({ block:=b,off:=off }:Addr)else some { block:=b,off:=off+a })=Z;clear sZ d0 d1 lP bM HJ HB mC hk1 hk2 QM;rcases (show r - a<1∨6<r - a∨(1≤r - a∧r - a≤6) by omega)with yQ | yQ | ⟨Qn,P6⟩
  ·have hz:s.size=0:=(by omega);have HF:=qqh (fun(W:World)=>bT 2 a W);go_wp2_with fail;refine(HF.out _).mono ?_;rintro e w5 ⟨rfl,rfl⟩;go_wp2_with fail;rw [show R=_ from fQ.out.symm.trans (GC Tf.out lH.out (.inl yQ))];exact⟨rfl,rfl,VZ.out⟩
  ·have HF:=qqh (fun(W:World)=>bT 2 a W);have hq1:decide ((s.size:Int)<1)=false:=decide_eq_false (by omega);have ON:decide ((6:Int)<(s.size:Int))=true:=decide_eq_true (by omega);go_wp2_with fail;refine(HF.out _).mono ?_;rintro e w5 ⟨rfl,rfl⟩;go_wp2_with fail;rw [show R=_ from fQ.out.symm.trans (GC Tf.out lH.out (.inr yQ))];exact⟨rfl,rfl,VZ.out⟩
  have hq1:decide ((s.size:Int)<1)=false:=decide_eq_false (by omega);have ON:decide ((6:Int)<(s.size:Int))=false:=decide_eq_false (by omega);have HN:=qqh (fc wq C _ n c L r 125 HJQ.out (by decide));have Jv:=qqh (show ¬(r - a<1∨6<r - a) by omega);cases hn2:aQ L r 125 with
  | error e0=>
   obtain⟨x,p⟩:=e0;rw [hn2]at HN;go_wp2_with fail;refine HN.out.mono ?_;rintro e w5 ⟨he,hb⟩;unfold aS at he;subst he;have xY:=qqh (VZ.out.trans hb);clear hb HN;go_wp2_with fail;rw [show R=_ from fQ.out.symm.trans (PK Tf.out lH.out Jv.out hn2)];exact⟨rfl,rfl,xY.out⟩
  | ok k=>
   rw [hn2]at HN;have F9:=qqh hn2;obtain⟨x0,x1⟩:=mY (l:=aM L a r) HDS.out (by omega);have HPI:=qqh (fun(W:World)=>Ki s (aM L a r) W zj.out HDS.out (by omega) (by omega));generalize hX:dY (aM L a r)=X at *;have Rs:=qqh hX;clear hX hn2;go_wp2_with fail;refine HN.out.mono ?_;rintro e w5 ⟨rfl,lQ,dN⟩;have uu:=qqh lQ;have dG:=qqh (VZ.out.trans dN);clear lQ dN;go_wp2_with fail;refine(HPI.out _).mono ?_;rintro e w6 ⟨rfl,eG⟩;have Ix:=qqh (uu.out.below eG);have gT:=qqh (dG.out.trans (bF.below C eG));clear eG;by_cases hbig:1114111<X
   ·have HF:=qqh (fun(W:World)=>bT 3 i W);go_wp2_with fail;refine(HF.out _).mono ?_;rintro e w7 ⟨rfl,rfl⟩;go_wp2_with fail;rw [show R=_ from fQ.out.symm.trans (OK Tf.out lH.out Jv.out F9.out (by rw [Rs.out];exact hbig))];exact⟨rfl,rfl,gT.out⟩
   have hwx:IntKind.i32.wrap X=X:=IntWalk.i32_in _ (by omega);go_wp2_with fail;go_ret;rw [show R=_ from fQ.out.symm.trans (TN Tf.out lH.out Jv.out F9.out (by rw [Rs.out];omega)),Rs.out];exact⟨rfl,Ix.out,gT.out⟩
theorem CH {L:List Int} {i:Nat} (h:cQ (pk L i)=true):cL L i=.ok (pk L i,i+1):=by unfold cL;rw [if_pos h]
theorem LS {L:List Int} {i:Nat} (h:cQ (pk L i)=false) (h2:pk L i≠92):cL L i=.error (2,i):=by unfold cL;rw [if_neg (by rw [h];decide),if_pos h2]
theorem Jl {L:List Int} {i:Nat} (h2:pk L i=92):cL L i=if pk L (i+1)=110 then .ok (10,i+2)
  else if pk L (i+1)=116 then .ok (9,i+2)
  else if pk L (i+1)=117 then kU L (i+1)
  else if pk L (i+1)<0∨Gt (pk L (i+1))=true then .error (2,i+1)
  else .ok (pk L (i+1),i+2):=by
 unfold cL;rw [if_neg (by rw [h2];decide),if_neg (by rw [h2];decide)]
theorem Cf (r:Int):Gt r=true↔(48≤r∧r≤57)∨(97≤r∧r≤122)∨(65≤r∧r≤90):=by
 unfold Gt;simp only [Bool.or_eq_true,Bool.and_eq_true,decide_eq_true_eq]
theorem av.step {w:World} {C:Nat} {A:Option Addr} {n c:Nat} {L:List Int} {i:Nat} (h:av w C A n c L i) (hi:i<n) :
    w.cell? ⟨C,1,none⟩=some (.int .i64 i)∧w.frozen? ⟨C,1,none⟩=false∧av (w.setCell ⟨C,1,none⟩ (.int .i64 ((i:Int)+1))) C A n c L (i+1)∧bF w C (w.setCell ⟨C,1,none⟩ (.int .i64 ((i:Int)+1))):=by
 have hm:=h.move (j:=i+1) hi;rw [show(((i+1:Nat)):Int)=(i:Int)+1 by omega]at hm;exact⟨h.blk.cell 1,h.blk.frozen 1,hm,bF.set w C 1 _⟩
theorem DS (w:World) (C:Nat) (A:Option Addr) (n c:Nat) (L:List Int) (i:Nat) (h:av w C A n c L i) (hL:fZ L) :
    Calls Tryz.prog 108 #[.pointer (some ⟨C,0,none⟩)] w (Dd w C A n c L (cL L i)):=by
 have hs:=h.size;have hlen:=h.len;have HL:=qqh hL;have HC:=qqh h;have ie:=qqh (fun(W:World) (k:Nat) (h:av W C A n c L k)=>l9 W C A n c L k h);have qB:=qqh (fun(W:World) (k:Nat)=>oI (pk L k) W (hL.pk k));have hw1:IntKind.i64.wrap ((i:Int)+1)=(i:Int)+1:=wrap_small _ (by have:=h.le;omega) (by have:=h.le;omega);have hle:=h.le;clear h hL;obtain⟨R,hR⟩:∃ R,cL L i=R:=⟨_,rfl⟩;rw [hR];have fQ:=qqh hR;clear hR;cases hp:cQ (pk L i)with
 | true=>
  have hlt:i<L.length:=bl (fun e=>by rw [e]at hp;exact absurd hp (by decide));have iE:=qqh (show R=.ok (pk L i,i+1) from fQ.out.symm.trans (CH hp));have Ni:=qqh (fun(W:World)=>show Calls Tryz.prog 103 #[.int .i32 (pk L i)] W fun e w'=>e=.returned (.bool true)∧Below W.heap.size W w' by have:=qB.out W i;rwa [hp]at this);clear hp;go_enter Tryz.func108,Tryz.ntmps108;go_wp2_with fail;refine(ie.out _ _ HC.out).mono ?_;rintro e w1 ⟨rfl,m,rfl⟩;go_wp2_with fail;refine(Ni.out _).mono ?_;rintro e w2 ⟨rfl,hb⟩;have ox:=qqh ((HC.out.drewN m).below hb);have bL:=qqh ((bF.drewN w C m).trans (bF.below C hb));clear hb;obtain⟨d1,d2,d3,d4⟩:=ox.out.step (by omega);have qE:=qqh d3;have bM:=qqh (bL.out.trans d4);clear d3 d4;go_wp2_with fail;go_ret;rw [iE.out];exact⟨rfl,qE.out,bM.out⟩
 | false=>
  have Ni:=qqh (fun(W:World)=>show Calls Tryz.prog 103 #[.int .i32 (pk L i)] W fun e w'=>e=.returned (.bool false)∧Below W.heap.size W w' by have:=qB.out W i;rwa [hp]at this);by_cases xQ:pk L i=92
  ·have hlt:i<L.length:=bl (by omega);have Er:=qqh (fQ.out.symm.trans (Jl xQ));have sK:=qqh (fun(W:World) (h:av W C A n c L i)=>show Calls Tryz.prog 31 #[.pointer (some ⟨C,0,none⟩)] W fun e w'=>e=.returned (.int .i32 92)∧∃ m,w'=W.drewN m by have:=ie.out W i h;rwa [xQ]at this);rw [xQ]at Ni;clear hp xQ;go_enter Tryz.func108,Tryz.ntmps108;go_wp2_with fail;refine(sK.out _ HC.out).mono ?_;rintro e w1 ⟨rfl,m,rfl⟩;go_wp2_with fail;refine(Ni.out _).mono ?_;rintro e w2 ⟨rfl,hb⟩;have ox:=qqh ((HC.out.drewN m).below hb);have bL:=qqh ((bF.drewN w C m).trans (bF.below C hb));clear hb;obtain⟨d1,d2,d3,d4⟩:=ox.out.step (by omega);have qE:=qqh d3;have bM:=qqh (bL.out.trans d4);clear d3 d4;go_wp2_with fail;refine(ie.out _ _ qE.out).mono ?_;rintro e w3 ⟨rfl,m3,EM⟩;have Dr:=qqh (qE.out.drewN m3);have dS:=qqh (bM.out.trans (bF.drewN _ C m3));rw [← EM]at Dr dS;clear EM d1 d2;have CS:IntKind.i64.wrap ((i:Int)+1+1)=(i:Int)+1+1:=wrap_small _ (by omega) (by omega);have ab0:=xe HL.out.ok (i+1);have KR:=qqh (fun(W:World) (hc:av W C A n c L (i+1)) (hlt:i+1<n)=>Qe W C A n c L (i+1) hc HL.out hlt);have hcast:((i+1:Nat):Int)=(i:Int)+1:=(by omega);generalize hr:pk L (i+1)=r at *;by_cases h1:r=110
   ·subst h1;have hlt2:i+1<n:=(by rw [← hlen];exact bl (by omega));have iE:=qqh (show R=.ok (10,i+2) from Er.out);obtain⟨d1,d2,d3,d4⟩:=Dr.out.step hlt2;rw [hcast]at d1 d3 d4;have uu:=qqh d3;have dG:=qqh (dS.out.trans d4);clear d3 d4 Er hr;go_wp2_with fail;go_ret;rw [iE.out];exact⟨rfl,uu.out,dG.out⟩
   by_cases h2:r=116
   ·subst h2;have hlt2:i+1<n:=(by rw [← hlen];exact bl (by omega));have iE:=qqh (show R=.ok (9,i+2) from Er.out);obtain⟨d1,d2,d3,d4⟩:=Dr.out.step hlt2;rw [hcast]at d1 d3 d4;have uu:=qqh d3;have dG:=qqh (dS.out.trans d4);clear d3 d4 Er hr;go_wp2_with fail;go_ret;rw [iE.out];exact⟨rfl,uu.out,dG.out⟩
   by_cases h3:r=117
   ·subst h3;have hlt2:i+1<n:=(by rw [← hlen];exact bl (by omega));have iE:=qqh (show R=kU L (i+1) from Er.out);have HX:=qqh (KR.out _ Dr.out hlt2);clear Er hr KR;cases hx:kU L (i+1)with
    | error e0=>
     obtain⟨x,p⟩:=e0;rw [hx]at HX;have dP:=qqh (iE.out.trans hx);clear hx;go_wp2_with fail;refine HX.out.mono ?_;rintro e w5 ⟨he,hb⟩;unfold aS at he;subst he;have dG:=qqh (dS.out.trans hb);clear hb;go_wp2_with fail;rw [dP.out];exact⟨rfl,rfl,dG.out⟩
    | ok q=>
     obtain⟨x,p⟩:=q;rw [hx]at HX;have dP:=qqh (iE.out.trans hx);clear hx;go_wp2_with fail;refine HX.out.mono ?_;rintro e w5 ⟨rfl,hc,hb⟩;have uu:=qqh hc;have dG:=qqh (dS.out.trans hb);clear hb hc;go_wp2_with fail;go_ret;rw [dP.out];exact⟨rfl,uu.out,dG.out⟩
   have PA:=qqh (show R=if r<0∨Gt r=true then .error (2,i+1)else .ok (r,i+2) by rw [Er.out,if_neg h1,if_neg h2,if_neg h3]);have q1:(r == 110)=false:=(by simp;exact h1);have q2:(r == 116)=false:=(by simp;exact h2);have q3:(r == 117)=false:=(by simp;exact h3);clear Er h1 h2 h3 KR;by_cases yQ:r<0∨Gt r=true
   ·have iE:=qqh (show R=.error (2,i+1) by rw [PA.out,if_pos yQ]);have d1:=Dr.out.blk.cell 1;have hcell:w3.cell? ⟨C,1,none⟩=some (.int .i64 ((i:Int)+1)):=(by rw [← hcast];exact d1);have HF:=qqh (fun(W:World)=>bT 2 ((i:Int)+1) W);rw [Cf]at yQ;clear PA d1;rcases (show r<0∨(48≤r∧r≤57)∨(97≤r∧r≤122)∨(65≤r∧r≤90) by omega)with h1 | ⟨h1,h2⟩ | ⟨h1,h2⟩ | ⟨h1,h2⟩
    all_goals
      clear yQ
      go_wp2_with fail
      refine(HF.out _).mono ?_
      rintro e w5 ⟨rfl,rfl⟩
      go_wp2_with fail
      rw [iE.out]
      exact⟨rfl,by rw [aS,hcast],dS.out⟩
   have iE:=qqh (show R=.ok (r,i+2) by rw [PA.out,if_neg yQ]);rw [Cf]at yQ;have hlt2:i+1<n:=(by rw [← hlen];exact bl (by omega));obtain⟨d1,d2,d3,d4⟩:=Dr.out.step hlt2;rw [hcast]at d1 d3 d4;have uu:=qqh d3;have dG:=qqh (dS.out.trans d4);clear d3 d4 PA hr;rcases (show(0≤r∧r<48)∨(57<r∧r<65)∨(90<r∧r<97)∨122<r by omega)with ⟨h1,h2⟩ | ⟨h1,h2⟩ | ⟨h1,h2⟩ | h1
   all_goals
     clear yQ
     go_wp2_with fail
     go_ret
     rw [iE.out]
     exact⟨rfl,uu.out,dG.out⟩
  have iE:=qqh (show R=.error (2,i) from fQ.out.symm.trans (LS hp xQ));have aeN:(pk L i != 92)=true:=(by simp [xQ]);clear hp;go_enter Tryz.func108,Tryz.ntmps108;go_wp2_with fail;refine(ie.out _ _ HC.out).mono ?_;rintro e w1 ⟨rfl,m,rfl⟩;go_wp2_with fail;refine(Ni.out _).mono ?_;rintro e w2 ⟨rfl,hb⟩;have ox:=qqh ((HC.out.drewN m).below hb);have bL:=qqh ((bF.drewN w C m).trans (bF.below C hb));clear hb;have d1:=ox.out.blk.cell 1;go_wp2_with fail;refine(bT 2 i _).mono ?_;rintro e w3 ⟨rfl,rfl⟩;go_wp2_with fail;rw [iE.out];exact⟨rfl,rfl,bL.out⟩
theorem Dl (W:World) (v:Value):(Instr.typeAssert (.iface 114 v) 20 114 true).run Tryz.prog W=.ok (.tuple #[v,.bool true]) W:=by kernel_rfl
theorem BX (f:Addr) (w:World) :
    CallsD Tryz.prog 28 #[.pointer (some f)] .returning w fun e u' w'=>e=.returned (.tuple #[])∧u'=.returning∧w'=w:=by
 refine callsD_of_wpS Tryz.func28 rfl fun c₀ cs hu=>?_;apply wpS_seq;apply wpS_region;simp [wpOpsS,go_sem,recoverD,hu,Tryz.ntmps28,Exit.thenS];refine wpS_of_wp ?_;go_wp2_with fail;cases c₀;simp_all [bodyPostS,results,Tryz.results28]
theorem yj (f:Nat) (x p a b:Int) (t:TypeId) (older:List PanicEntry) (w:World) (hf:aj w f t #[.int .i64 a,.int .i64 b]) :
    CallsD Tryz.prog 28 #[.pointer (some ⟨f,0,none⟩)] (.panicking ({ v:=.iface 114 (.agg #[.int .i64 x,.int .i64 p]),recovered:=false } :: older)) w fun e u' w'=>
      e=.returned (.tuple #[])∧u'=.panicking ({ v:=.iface 114 (.agg #[.int .i64 x,.int .i64 p]),recovered:=true } :: older)∧aj w' f t #[.int .i64 x,.int .i64 p]∧bF w f w':=by
 have f0:=hf.frozen 0;have f1:=hf.frozen 1;have c0:=hf.cell 0;have c1:=hf.cell 1;refine callsD_of_wpS Tryz.func28 rfl fun c₀ cs hu=>?_;apply wpS_seq;apply wpS_region;simp [wpOpsS,go_sem,recoverD,hu,Tryz.ntmps28,Exit.thenS];refine wpS_of_wp ?_;have e (V:Value):(#[Value.pointer (some ⟨f,0,none⟩)]++(Array.replicate 14 undef).setIfInBounds 4 V) = #[.pointer (some ⟨f,0,none⟩),undef,undef,undef,undef,V,undef,undef,undef,undef,undef,undef,undef,undef,undef]:=rfl;rw [e];have hlt:=hf.lt;have hta:=fun(W:World) (v:Value)=>Dl W v;go_wp2_with fail;have hB:aj (((w.setCell ⟨f,0,none⟩ (.int .i64 x)).setCell ⟨f,1,none⟩ (.int .i64 p)).alloc (.cells #[.int .i64 x,.int .i64 p] 114)) f t #[.int .i64 x,.int .i64 p]:=((hf.put 0 _).put 1 _).alloc _;have hS:bF w f (((w.setCell ⟨f,0,none⟩ (.int .i64 x)).setCell ⟨f,1,none⟩ (.int .i64 p)).alloc (.cells #[.int .i64 x,.int .i64 p] 114)):=((bF.set w f 0 _).trans (bF.set _ f 1 _)).trans (bF.below f (qqb.alloc qql _));simp [bodyPostS,results,Tryz.results28,hB,hS]
end Go.Proofs.YtblinekbpcdbfaaGreatDoor
