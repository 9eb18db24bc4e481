/- Cursor + CurFail + CurSkip + CurPlain + CurHex + CurChar + Caught -/
import Derived.Test.YtkggjgeihhialaaGreatDoorZu31
import Derived.Test.YtkggjgeihhialaaGreatDoorZu21
import Derived.Test.YtkggjgeihhialaaGreatDoorZu8
import Derived.Defers
import Derived.Recover
set_option maxHeartbeats 3200000
set_option maxRecDepth 100000
namespace Go.Proofs.YtkggjgeihhialaaGreatDoor
open Go.RowKit
def mQ (w:World) (g:Nat) (cs:Array Value):Prop:=∃ t,aj w g t cs
section
variable {w w' : World} {g : Nat} {cs : Array Value}
theorem mQ.lt (h:mQ w g cs):g<w.heap.size:=let ⟨_,hb⟩:=h;hb.lt
theorem mQ.cell (h:mQ w g cs) (i:Nat):w.cell? ⟨g,i,none⟩=cs[i]?:=let ⟨_,hb⟩:=h;hb.cell i
theorem mQ.frozen (h:mQ w g cs) (i:Nat):w.frozen? ⟨g,i,none⟩=false:=let ⟨_,hb⟩:=h;hb.frozen i
theorem mQ.drewN (h:mQ w g cs) (n:Nat):mQ (w.drewN n) g cs:=h
theorem mQ.put (h:mQ w g cs) (i:Nat) (u:Value):mQ (w.setCell ⟨g,i,none⟩ u) g (cs.setIfInBounds i u):=let ⟨t,hb⟩:=h;⟨t,hb.put i u⟩
theorem mQ.below {B:Nat} (h:mQ w g cs) (hb:Below B w w') (hg:g<B):mQ w' g cs:=let ⟨t,hc⟩:=h;⟨t,hc.below hb hg⟩
theorem mQ.same (h:mQ w g cs) (he:w'.heap[g]? = w.heap[g]?):mQ w' g cs:=let ⟨t,hc⟩:=h;⟨t,he.trans hc⟩
end
structure ax (w:World) (C:Nat) (A:Option Addr) (n c:Nat) (L:List Int) (i:Nat):Prop where
  blk:mQ w C #[.slice A n c,.int .i64 i]
  row:cE w (fun b=>b≠C) 1 A n (runeCells L)
  size:n≤4611686018427387904
  le:i≤n
  cap:n≤c
theorem ax.len {w:World} {C:Nat} {A:Option Addr} {n c:Nat} {L:List Int} {i:Nat} (h:ax w C A n c L i):L.length=n:=by
 have:=h.row.1;rw [runeCells_length]at this;omega
theorem ax.drewN {w:World} {C:Nat} {A:Option Addr} {n c:Nat} {L:List Int} {i:Nat} (h:ax w C A n c L i) (k:Nat):ax (w.drewN k) C A n c L i :=
  ⟨h.blk.drewN k,h.row.keep (aa.any (below_drewN (Below.refl _ _) k)),h.size,h.le,h.cap⟩
theorem Cz (w:World) (C:Nat) (A:Option Addr) (n c:Nat) (L:List Int) (i k:Nat) (h:ax w C A n c L i) (hk:k≤1000) :
    Calls Tryz.prog 67 #[.pointer (some ⟨C,0,none⟩),.int .i64 k] w fun e w'=>e=.returned (.int .i32 (pk L (i+k)))∧∃ m,w'=w.drewN m:=by
 have c0:=h.blk.cell 0;have c1:=h.blk.cell 1;have hl:=h.len;have hs:=h.size;have hi:=h.le;have hw1:IntKind.i64.wrap ((i:Int)+k)=((i+k:Nat):Int):=(by rw [wrap_small _ (by omega) (by omega)];omega);by_cases hlt:i+k<n
 ·obtain⟨x,hx⟩:∃ x,L[i+k]? = some x:=⟨_,List.getElem?_eq_getElem (by omega)⟩;rw [GH hx];obtain⟨b,o,rfl,_,_,hc⟩:=h.row.2 (by omega);have d0:w.cell? ⟨b,o+(i+k),none⟩=some (.int .i32 x):=hc _ _ (by simp [runeCells,hx]);have hg:decide ((n:Int)≤((i+k:Nat):Int))=false:=decide_eq_false (by omega);have hk0:(0:Int)≤((i+k:Nat):Int):=(by omega);have hk1:((i+k:Nat):Int)<(n:Int):=(by omega);clear hc h hx hl;go_enter Tryz.func67,Tryz.ntmps67;go_wp2_with fail;go_quiet (fail);go_wp2_with fail;go_quiet (fail);go_wp2_with fail;go_ret;exact⟨rfl,_,by rw [World.drewN_drewN]⟩
 rw [pW (by omega)];have hg:decide ((n:Int)≤((i+k:Nat):Int))=true:=decide_eq_true (by omega);clear h hl;go_enter Tryz.func67,Tryz.ntmps67;go_wp2_with fail;go_quiet (fail);go_wp2_with fail;go_ret;exact⟨rfl,_,rfl⟩
theorem mc (w:World) (C:Nat) (A:Option Addr) (n c:Nat) (L:List Int) (i:Nat) (h:ax w C A n c L i) :
    Calls Tryz.prog 41 #[.pointer (some ⟨C,0,none⟩)] w fun e w'=>e=.returned (.int .i32 (pk L i))∧∃ m,w'=w.drewN m:=by
 have HL:=qqh (show Calls Tryz.prog 67 #[.pointer (some ⟨C,0,none⟩),.int .i64 0] w fun e w'=>e=.returned (.int .i32 (pk L i))∧∃ m,w'=w.drewN m from Cz w C A n c L i 0 h (Nat.zero_le _));clear h;go_enter Tryz.func41,Tryz.ntmps41;go_wp2_with fail;refine HL.out.mono ?_;rintro e w1 ⟨rfl,hm⟩;go_wp2_with fail;go_ret;exact⟨rfl,hm⟩
theorem bZ (e p:Int) (w:World) :
    Calls Tryz.prog 39 #[.int .i64 e,.int .i64 p] w fun en w'=>en=.panicked [{ v:=.iface 132 (.agg #[.int .i64 e,.int .i64 p]),recovered:=false }]∧w'=w:=by
 go_enter Tryz.func39,Tryz.ntmps39;go_wp2_with fail;exact⟨rfl,rfl,rfl⟩
theorem rR (r:Int) (w:World) :
    Calls Tryz.prog 93 #[.int .i32 r] w fun e w'=>e=.returned (.bool (pz r))∧w'=w:=by
 go_enter Tryz.func93,Tryz.ntmps93;go_wp2;(all_goals go_ret);(all_goals refine⟨aW ?_,rfl⟩);(all_goals (rw [Bool.eq_iff_iff];simp [pz];try omega))
def aZ (e p:Int):Ending:=.panicked [{ v:=.iface 132 (.agg #[.int .i64 e,.int .i64 p]),recovered:=false }]
theorem ax.move {w:World} {C:Nat} {A:Option Addr} {n c:Nat} {L:List Int} {i j:Nat} (h:ax w C A n c L i) (hj:j≤n):ax (w.setCell ⟨C,1,none⟩ (.int .i64 j)) C A n c L j :=
  ⟨h.blk.put 1 _,h.row.keep (aa.setCell (p:=⟨C,1,none⟩) _ (fun _ hb=>hb) (fun _ h _=>h)),h.size,hj,h.cap⟩
theorem fk (w:World) (C:Nat) (A:Option Addr) (n c:Nat) (L:List Int) (i:Nat) (r:Int) (h:ax w C A n c L i) (hr:r ≠ -1) :
    Calls Tryz.prog 43 #[.pointer (some ⟨C,0,none⟩),.int .i32 r] w fun e w'=>
      match aT L i r with
      | .ok j=>e=.returned (.tuple #[])∧ax w' C A n c L j∧bN w C w'
      | .error (x,p)=>e=aZ x p∧bN w C w':=by
 have gS:=qqh (mc w C A n c L i h);have HC:=qqh h;have hs:=h.size;have hi:=h.le;have hl:=h.len;have hw1:IntKind.i64.wrap ((i:Int)+1)=((i+1:Nat):Int):=(by rw [wrap_small _ (by omega) (by omega)];omega);clear h;unfold aT;by_cases he:pk L i=r
 ·have hlt:i<L.length:=bE (by omega);rw [if_pos he];have hg:decide (pk L i=r)=true:=decide_eq_true he;go_enter Tryz.func43,Tryz.ntmps43;go_wp2_with fail;refine gS.out.mono ?_;rintro e w1 ⟨rfl,m,rfl⟩;have jB:=qqh (HC.out.drewN m);have c0:=jB.out.blk.cell 0;have c1:=jB.out.blk.cell 1;have f1:=jB.out.blk.frozen 1;go_wp2_with fail;have hm:=jB.out.move (j:=i+1) (by omega);rw [show(((i+1:Nat)):Int)=(i:Int)+1 by omega]at hm;go_end0;exact⟨rfl,hm,(bN.drewN w C m).trans (bN.set _ C 1 _)⟩
 rw [if_neg he];go_enter Tryz.func43,Tryz.ntmps43;go_wp2_with fail;refine gS.out.mono ?_;rintro e w1 ⟨rfl,m,rfl⟩;have jB:=qqh (HC.out.drewN m);have c0:=jB.out.blk.cell 0;have c1:=jB.out.blk.cell 1;go_wp2_with fail;refine(bZ 2 i _).mono ?_;rintro e w2 ⟨rfl,rfl⟩;go_wp2_with fail;exact⟨rfl,rfl,bN.drewN w C m⟩
theorem iz (w:World) (C:Nat) (A:Option Addr) (n c:Nat) (L:List Int) (i:Nat) (h:ax w C A n c L i) :
    Calls Tryz.prog 66 #[.pointer (some ⟨C,0,none⟩)] w fun e w'=>e=.returned (.tuple #[])∧ax w' C A n c L (aP L i)∧bN w C w':=by
 have HC:=qqh h;have hs:=h.size;have hl:=h.len;clear h;go_enter Tryz.func66,Tryz.ntmps66;go_wp2_with fail;go_loopw [2] (fun _ wr=>∃ j,j≤n∧aP L i=aP L j∧ax wr C A n c L j∧bN w C wr) (fun _ wr=>n - (match wr.cell? ⟨C,1,none⟩with | some (.int _ j)=>j.toNat | _=>0));(case atStart=>exact⟨i,HC.out.le,rfl,HC.out,bN.refl _ _⟩);obtain⟨j,hj,zo,hc,hb⟩:=hrel;have HJ:=qqh hc;have HB:=qqh hb;have HS:=qqh zo;have gS:=qqh (mc wr C A n c L j hc);have hm0:=hc.blk.cell 1;have nS:=qqh hm0;have hw1:IntKind.i64.wrap ((j:Int)+1)=((j+1:Nat):Int):=(by rw [wrap_small _ (by omega) (by omega)];omega);clear hc hb zo hm0;go_wp2_with fail;refine gS.out.mono ?_;rintro e w1 ⟨rfl,m,rfl⟩;have jB:=qqh (HJ.out.drewN m);go_wp2_with fail;refine(rR _ _).mono ?_;rintro e w2 ⟨rfl,rfl⟩;by_cases eF:pz (pk L j)=true
 ·rw [eF];have hlt:j<L.length:=bE (fun e=>by rw [e]at eF;exact absurd eF (by decide));have c0:=jB.out.blk.cell 0;have c1:=jB.out.blk.cell 1;have f1:=jB.out.blk.frozen 1;have SN:=jB.out.move (j:=j+1) (by omega);rw [show(((j+1:Nat)):Int)=(j:Int)+1 by omega]at SN;have uh:=qqh SN;clear SN;go_wp2_with fail;refine⟨⟨j+1,by omega,HS.out.trans (dR hlt eF),uh.out,(HB.out.trans (bN.drewN wr C m)).trans (bN.set _ C 1 _)⟩,?_⟩;have e1:((wr.drewN m).setCell ⟨C,1,none⟩ (.int .i64 ((j:Int)+1))).cell? ⟨C,1,none⟩=some (.int .i64 ((j+1:Nat):Int)):=uh.out.blk.cell 1;have e2:wr.cell? ⟨C,1,none⟩=some (.int .i64 (j:Int)):=nS.out;rw [e1,e2];simp only [Int.toNat_natCast];omega
 rw [Bool.not_eq_true]at eF;rw [eF];go_wp2_with fail;go_end0;refine⟨rfl,?_,HB.out.trans (bN.drewN wr C m)⟩;rw [HS.out,show aP L j=j from cV (fun _=>eF)];exact jB.out
def Fx (r:Int):Prop:=r = -1∨Utf8.valid r=true
def qP:ByteArray:=⟨#[91,93,38,45,94,92,58,36,40,41,123,125,60,62,124,59,35,39,34,61,44]⟩
theorem DL (r:Int):(qP.data.toList.any fun b=>decide ((b.toNat:Int)=r))=qG.contains r:=by
 rw [Bool.eq_iff_iff];simp [qP,qG];omega
theorem og (r:Int) (w:World) (hr:Fx r) :
    Calls Tryz.prog 113 #[.int .i32 r] w fun e w'=>e=.returned (.bool (dh r))∧Below w.heap.size w w':=by
 have HS:=qqh (show Calls Tryz.prog 133 #[.string qP,.int .i32 r] w fun e w'=>e=.returned (.bool (qG.contains r))∧Below w.heap.size w w' by
  have:=oN qP r w (by decide) (by decide) (by decide) hr;rw [DL]at this;exact this)
 clear hr;unfold dh;by_cases h0:0≤r
 ·have hd:decide (0≤r)=true:=decide_eq_true h0;rw [hd];cases hb:pz r
  ·go_enter Tryz.func113,Tryz.ntmps113;go_wp2_with fail;refine(rR _ _).mono ?_;rintro e w1 ⟨rfl,hw⟩;rw [hw,hb];go_wp2_with fail;refine HS.out.mono ?_;rintro e w2 ⟨rfl,aU⟩;go_wp2_with fail;go_ret;exact⟨by simp,aU⟩
  go_enter Tryz.func113,Tryz.ntmps113;go_wp2_with fail;refine(rR _ _).mono ?_;rintro e w1 ⟨rfl,hw⟩;rw [hw,hb];go_wp2_with fail;go_ret;exact⟨by simp,Below.refl _ _⟩
 have hd:decide (0≤r)=false:=decide_eq_false h0;rw [hd];go_enter Tryz.func113,Tryz.ntmps113;go_wp2_with fail;go_ret;exact⟨by simp,Below.refl _ _⟩
def fU (L:List Int):Prop:=∀ x∈L,Utf8.valid x=true
theorem fU.ok {L:List Int} (h:fU L):cA L:=fun x hx=>by
 have:=h x hx;simp [Utf8.valid]at this;omega
theorem fU.pk {L:List Int} (h:fU L) (i:Nat):Fx (pk L i):=by
 unfold Go.Proofs.YtkggjgeihhialaaGreatDoor.pk;cases hi:L[i]? with
 | none=>exact .inl rfl
 | some x=>exact .inr (h x (List.mem_of_getElem? hi))
theorem ax.at {w:World} {C:Nat} {A:Option Addr} {n c:Nat} {L:List Int} {i:Nat} (h:ax w C A n c L i) (h0:0<n) :
    ∃ b off,A=some ⟨b,off,none⟩∧b<w.heap.size∧∀ j x,L[j]? = some x→w.cell? ⟨b,off+j,none⟩=some (.int .i32 x):=by
 obtain⟨b,off,e,_,hb,hc⟩:=h.row.2 h0;exact⟨b,off,e,hb,fun j x hx=>hc j _ (by rw [eH,hx];rfl)⟩
theorem xp {w:World} {C:Nat} {b off n c:Nat} {L:List Int} {k:Nat} (h:ax w C (some ⟨b,off,none⟩) n c L k) {i j:Nat} (hij:i≤j) (hj:j≤n) :
    (convert 33 9 (.slice (if c=i then some ⟨b,off,none⟩else some ⟨b,off+i,none⟩) (j - i) (c - i))).run Tryz.prog w=.ok (.string (runesBytes (aN L i j))) w:=by
 have hlen:=h.len;have hcap:=h.cap;by_cases hn:0<n
 ·obtain⟨b',off',e,_,hc⟩:=h.at hn;cases e;have key:∀ (o:Nat),o=off+i∨j - i=0→(convert 33 9 (.slice (some ⟨b,o,none⟩) (j - i) (c - i))).run Tryz.prog w=.ok (.string (runesBytes (aN L i j))) w:=by
   intro o ho;rcases ho with rfl | ho
   ·have:=run_convert_runes (P:=Tryz.prog) w 33 9 21 ⟨b,off+i,none⟩ (j - i) (c - i) (aN L i j) (by unfold aN;rw [List.length_take,List.length_drop];omega) Tryz.underlying33 Tryz.underlying21 Tryz.underlying9 (fun q hq=>by
     rw [ia,Nat.add_assoc];unfold aN at hq ⊢;rw [List.length_take,List.length_drop]at hq;refine hc (i+q) _ ?_;rw [List.getD_eq_getElem?_getD,List.getElem?_take_of_lt (by omega),List.getElem?_drop];rw [List.getElem?_eq_getElem (by omega)];rfl)
    rw [show(aN L i j).take (j - i)=aN L i j from List.take_of_length_le (by unfold aN;rw [List.length_take];omega)]at this;exact this
   have:=run_convert_runes (P:=Tryz.prog) w 33 9 21 ⟨b,o,none⟩ (j - i) (c - i) [] (by rw [ho];simp) Tryz.underlying33 Tryz.underlying21 Tryz.underlying9 (fun q hq=>by simp at hq);rw [show([]:List Int).take (j - i)=aN L i j by unfold aN;rw [ho];simp]at this;exact this
  split;exact key _ (.inr (by omega));exact key _ (.inl rfl)
 have:=run_convert_runes (P:=Tryz.prog) w 33 9 21 (if c=i then ⟨b,off,none⟩else ⟨b,off+i,none⟩) (j - i) (c - i) [] (by rw [show j - i=0 by omega];simp) Tryz.underlying33 Tryz.underlying21 Tryz.underlying9 (fun q hq=>by simp at hq);have e:(if c=i then some (⟨b,off,none⟩:Addr)else some ⟨b,off+i,none⟩)=some (if c=i then (⟨b,off,none⟩:Addr)else ⟨b,off+i,none⟩):=(by split <;> rfl);rw [show([]:List Int).take (j - i)=aN L i j by unfold aN;rw [show j - i=0 by omega];simp]at this;rw [e];exact this
def B5 (w:World) (C:Nat) (A:Option Addr) (n c:Nat) (L:List Int) (r:jS Int) (e:Ending) (w':World):Prop :=
  match r with
  | .ok (x,j)=>e=.returned (.int .i32 x)∧ax w' C A n c L j∧bN w C w'
  | .error (x,p)=>e=aZ x p∧bN w C w'
def Oq:ByteArray:=⟨#[48,49,50,51,52,53,54,55,56,57,97,98,99,100,101,102,65,66,67,68,69,70]⟩
theorem N3 (r:Int):(Oq.data.toList.any fun b=>decide ((b.toNat:Int)=r))=eT r:=by
 rw [Bool.eq_iff_iff];simp [Oq,eT];omega
theorem zX (r:Int) (w:World) (hr:Fx r) :
    Calls Tryz.prog 133 #[.string Oq,.int .i32 r] w fun e w'=>e=.returned (.bool (eT r))∧Below w.heap.size w w':=by
 have:=oN Oq r w (by decide) (by decide) (by decide) hr;rw [N3]at this;exact this
theorem ax.below {w w':World} {C:Nat} {A:Option Addr} {n c:Nat} {L:List Int} {i:Nat} (h:ax w C A n c L i) (hb:Below w.heap.size w w'):ax w' C A n c L i :=
  ⟨h.blk.below hb h.blk.lt,h.row.keep (aa.any hb),h.size,h.le,h.cap⟩
theorem PC {L:List Int} {i:Nat} {e:Int × Nat} (h:aT L (i+1) 123=.error e):kJ L i=.error e:=by unfold kJ;rw [h]
theorem Gl {L:List Int} {i a r:Nat} (h:aT L (i+1) 123=.ok a) (hr:r=aB eT L a) (hb:r - a<1∨6<r - a):kJ L i=.error (2,a):=by
 subst hr;unfold kJ;rw [h];simp only;rw [if_pos hb]
theorem Ol {L:List Int} {i a r:Nat} {e:Int × Nat} (h:aT L (i+1) 123=.ok a) (hr:r=aB eT L a) (hb:¬(r - a<1∨6<r - a)) (h2:aT L r 125=.error e):kJ L i=.error e:=by
 subst hr;unfold kJ;rw [h];simp only;rw [if_neg hb,h2]
theorem Pz {L:List Int} {i a r k:Nat} (h:aT L (i+1) 123=.ok a) (hr:r=aB eT L a) (hb:¬(r - a<1∨6<r - a)) (h2:aT L r 125=.ok k) (h3:1114111<eo (aN L a r)):kJ L i=.error (3,i):=by
 subst hr;unfold kJ;rw [h];simp only;rw [if_neg hb,h2];simp only;rw [if_pos h3]
theorem Rv {L:List Int} {i a r k:Nat} (h:aT L (i+1) 123=.ok a) (hr:r=aB eT L a) (hb:¬(r - a<1∨6<r - a)) (h2:aT L r 125=.ok k) (h3:¬ 1114111<eo (aN L a r)):kJ L i=.ok (eo (aN L a r),k):=by
 subst hr;unfold kJ;rw [h];simp only;rw [if_neg hb,h2];simp only;rw [if_neg h3]
def VP (w:World) (C:Nat) (A:Option Addr) (n c:Nat) (L:List Int) (a r:Nat) (wr:World):Prop :=
  ∃ j,a≤j∧j≤n∧r=aB eT L j∧ax wr C A n c L j∧bN w C wr
theorem N4 (w:World) (C:Nat) (A:Option Addr) (n c:Nat) (L:List Int) (i:Nat) (h:ax w C A n c L i) (hL:fU L) (hi:i<n) :
    Calls Tryz.prog 135 #[.pointer (some ⟨C,0,none⟩)] w (B5 w C A n c L (kJ L i)):=by
 have hs:=h.size;have hlen:=h.len;obtain⟨b,off,rfl,_,_⟩:=h.at (by omega);have HL:=qqh hL;have c0:=h.blk.cell 0;have c1:=h.blk.cell 1;have f1:=h.blk.frozen 1;have hw1:IntKind.i64.wrap ((i:Int)+1)=((i+1:Nat):Int):=(by rw [wrap_small _ (by omega) (by omega)];omega);have hm:=h.move (j:=i+1) (by omega);have SV:=bN.set w C 1 (.int .i64 ((i+1:Nat):Int));rw [show(((i+1:Nat)):Int)=(i:Int)+1 by omega]at hm SV;have HM:=qqh hm;have bJ:=qqh SV;clear hL hm h SV;obtain⟨R,hR⟩:∃ R,kJ L i=R:=⟨_,rfl⟩;rw [hR];have fC:=qqh hR;clear hR;cases hn:aT L (i+1) 123 with
 | error e0=>
  obtain⟨x,p⟩:=e0;have HN:=qqh (fk _ C _ n c L (i+1) 123 HM.out (by decide));rw [hn]at HN;go_enter Tryz.func135,Tryz.ntmps135;go_wp2_with fail;refine HN.out.mono ?_;rintro e w1 ⟨he,hb⟩;unfold aZ at he;subst he;have Ep:=qqh (bJ.out.trans hb);clear hb HN;go_wp2_with fail;rw [show R=_ from fC.out.symm.trans (PC hn)];exact⟨rfl,rfl,Ep.out⟩
 | ok a=>
  have Sl:=qqh hn;obtain⟨rfl,hpk⟩:=fQ hn;have HN:=qqh (fk _ C _ n c L (i+1) 123 HM.out (by decide));rw [hn]at HN;have hi1:i+1<n:=(by rw [← hlen];exact bE (by rw [hpk];decide));clear hn;generalize ha:i+1+1=a at *;have xJ:=qqh (vk eT L a);generalize hr:aB eT L a=r at *;have i4:=qqh hr.symm;clear hr;go_enter Tryz.func135,Tryz.ntmps135;go_wp2_with fail;refine HN.out.mono ?_;rintro e w1 ⟨rfl,hc,hb⟩;have HC:=qqh hc;have bD:=qqh (bJ.out.trans hb);have g0:=hc.blk.cell 0;have g1:=hc.blk.cell 1;clear hb hc HN bJ HM;go_wp2_with fail;go_loopw [25] (fun _ wr=>VP w C (some ⟨b,off,none⟩) n c L a r wr) (fun _ wr=>n - (match wr.cell? ⟨C,1,none⟩with | some (.int _ j)=>j.toNat | _=>0));(case atStart=>exact⟨a,Nat.le_refl _,HC.out.le,i4.out,HC.out,bD.out⟩);obtain⟨j,haj,hj,hrun,tc,Bz⟩:=hrel;have HJ:=qqh tc;have HB:=qqh Bz;have HR:=qqh hrun;have gS:=qqh (fun(W:World) (h:ax W C (some ⟨b,off,none⟩) n c L j)=>mc W C (some ⟨b,off,none⟩) n c L j h);have nS:=qqh (tc.blk.cell 1);have hok:=HL.out.pk j;have J7:=qqh (fun(W:World)=>zX (pk L j) W hok);clear tc Bz hrun;by_cases Ef:eT (pk L j)=true
  ·rw [Ef]at J7;have hlt:j<L.length:=bE (fun e=>by rw [e]at Ef;exact absurd Ef (by decide));have h0:0≤pk L j:=(ov (l:=[pk L j]) (by simpa using Ef) _ (by simp)).1;have hg:decide (0≤pk L j)=true:=decide_eq_true h0;have xU:IntKind.i64.wrap ((j:Int)+1)=((j+1:Nat):Int):=(by rw [wrap_small _ (by omega) (by omega)];omega);go_wp2_with fail;refine(gS.out _ HJ.out).mono ?_;rintro e w2 ⟨rfl,m,rfl⟩;go_wp2_with fail;refine(J7.out _).mono ?_;rintro e w3 ⟨rfl,bL⟩;have lN:=qqh ((HJ.out.drewN m).below bL);have bG:=qqh ((HB.out.trans (bN.drewN wr C m)).trans (bN.below C bL));clear bL;go_wp2_with fail;refine(gS.out _ lN.out).mono ?_;rintro e w4 ⟨rfl,m2,rfl⟩;have jB:=qqh (lN.out.drewN m2);have d0:=jB.out.blk.cell 0;have d1:=jB.out.blk.cell 1;have f2:=jB.out.blk.frozen 1;have SN:=jB.out.move (j:=j+1) (by omega);rw [show(((j+1:Nat)):Int)=(j:Int)+1 by omega]at SN;have uh:=qqh SN;clear SN;go_wp2_with fail;refine⟨⟨j+1,by omega,by omega,HR.out.trans (dR hlt Ef),uh.out,(bG.out.trans (bN.drewN w3 C m2)).trans (bN.set _ C 1 _)⟩,?_⟩;have e1:((w3.drewN m2).setCell ⟨C,1,none⟩ (.int .i64 ((j:Int)+1))).cell? ⟨C,1,none⟩=some (.int .i64 ((j+1:Nat):Int)):=uh.out.blk.cell 1;have e2:wr.cell? ⟨C,1,none⟩=some (.int .i64 (j:Int)):=nS.out;rw [e1,e2];simp only [Int.toNat_natCast];omega
  rw [Bool.not_eq_true]at Ef;rw [Ef]at J7;obtain rfl:r=j:=HR.out.trans (cV (fun _=>Ef));clear HR;go_wp2_with fail;refine(gS.out _ HJ.out).mono ?_;rintro e w2 ⟨rfl,m,rfl⟩;go_wp2_with fail;refine(J7.out _).mono ?_;rintro e w3 ⟨rfl,bL⟩;have lN:=qqh ((HJ.out.drewN m).below bL);have bG:=qqh ((HB.out.trans (bN.drewN wr C m)).trans (bN.below C bL));clear bL;have d0:=lN.out.blk.cell 0;have d1:=lN.out.blk.cell 1;have qu:=fun q=>xp (lN.out.drewN q) haj hj;have hk1:(a:Int)≤(r:Int):=(by omega);have hk2:(r:Int)≤(c:Int):=(by have:=lN.out.cap;omega);have Qs:(0:Int)≤(a:Int):=(by omega);have hds:∀ d∈aN L a r,eT d=true:=(by rw [xJ.out];exact oV _);have HDS:=qqh hds;have T4:(aN L a r).length=r - a:=(by unfold aN;rw [List.length_take,List.length_drop];omega);have hsz:(runesBytes (aN L a r)).size=r - a:=(by rw [tZ (ov hds),T4]);have Ay:=qqh (eY (ov hds));generalize runesBytes (aN L a r)=s at *;clear hds;go_wp2_with fail;go_quiet (fail);have HJQ:=qqh (lN.out.drewN nq);have NS:=qqh (bG.out.trans (bN.drewN w3 C nq));generalize w3.drewN nq=wq at HJQ NS ⊢;generalize (if c=a then some ({ block:=b,off:=off }:Addr)else some { block:=b,off:=off+a })=Z;clear qu d0 d1 lN bG HJ HB nS hk1 hk2 Qs;rcases (show r - a<1∨6<r - a∨(1≤r - a∧r - a≤6) by omega)with ym | ym | ⟨Pd,PB⟩
  ·have hz:s.size=0:=(by omega);have HF:=qqh (fun(W:World)=>bZ 2 a W);go_wp2_with fail;refine(HF.out _).mono ?_;rintro e w5 ⟨rfl,rfl⟩;go_wp2_with fail;rw [show R=_ from fC.out.symm.trans (Gl Sl.out i4.out (.inl ym))];exact⟨rfl,rfl,NS.out⟩
  ·have HF:=qqh (fun(W:World)=>bZ 2 a W);have hq1:decide ((s.size:Int)<1)=false:=decide_eq_false (by omega);have G0:decide ((6:Int)<(s.size:Int))=true:=decide_eq_true (by omega);go_wp2_with fail;refine(HF.out _).mono ?_;rintro e w5 ⟨rfl,rfl⟩;go_wp2_with fail;rw [show R=_ from fC.out.symm.trans (Gl Sl.out i4.out (.inr ym))];exact⟨rfl,rfl,NS.out⟩
  have hq1:decide ((s.size:Int)<1)=false:=decide_eq_false (by omega);have G0:decide ((6:Int)<(s.size:Int))=false:=decide_eq_false (by omega);have HN:=qqh (fk wq C _ n c L r 125 HJQ.out (by decide));have Hs:=qqh (show ¬(r - a<1∨6<r - a) by omega);cases hn2:aT L r 125 with
  | error e0=>
   obtain⟨x,p⟩:=e0;rw [hn2]at HN;go_wp2_with fail;refine HN.out.mono ?_;rintro e w5 ⟨he,hb⟩;unfold aZ at he;subst he;have Ep:=qqh (NS.out.trans hb);clear hb HN;go_wp2_with fail;rw [show R=_ from fC.out.symm.trans (Ol Sl.out i4.out Hs.out hn2)];exact⟨rfl,rfl,Ep.out⟩
  | ok k=>
   rw [hn2]at HN;have AT:=qqh hn2;obtain⟨x0,x1⟩:=mJ (l:=aN L a r) HDS.out (by omega);have HPI:=qqh (fun(W:World)=>Jz s (aN L a r) W Ay.out HDS.out (by omega) (by omega));generalize hX:eo (aN L a r)=X at *;have Nt:=qqh hX;clear hX hn2;go_wp2_with fail;refine HN.out.mono ?_;rintro e w5 ⟨rfl,lH,dJ⟩;have uz:=qqh lH;have dn:=qqh (NS.out.trans dJ);clear lH dJ;go_wp2_with fail;refine(HPI.out _).mono ?_;rintro e w6 ⟨rfl,dV⟩;have IB:=qqh (uz.out.below dV);have fG:=qqh (dn.out.trans (bN.below C dV));clear dV;by_cases hbig:1114111<X
   ·have HF:=qqh (fun(W:World)=>bZ 3 i W);go_wp2_with fail;refine(HF.out _).mono ?_;rintro e w7 ⟨rfl,rfl⟩;go_wp2_with fail;rw [show R=_ from fC.out.symm.trans (Pz Sl.out i4.out Hs.out AT.out (by rw [Nt.out];exact hbig))];exact⟨rfl,rfl,fG.out⟩
   have hwx:IntKind.i32.wrap X=X:=IntWalk.i32_in _ (by omega);go_wp2_with fail;go_ret;rw [show R=_ from fC.out.symm.trans (Rv Sl.out i4.out Hs.out AT.out (by rw [Nt.out];omega)),Nt.out];exact⟨rfl,IB.out,fG.out⟩
theorem Dr {L:List Int} {i:Nat} (h:dh (pk L i)=true):dc L i=.ok (pk L i,i+1):=by unfold dc;rw [if_pos h]
theorem LM {L:List Int} {i:Nat} (h:dh (pk L i)=false) (h2:pk L i≠92):dc L i=.error (2,i):=by unfold dc;rw [if_neg (by rw [h];decide),if_pos h2]
theorem JO {L:List Int} {i:Nat} (h2:pk L i=92):dc L i=if pk L (i+1)=110 then .ok (10,i+2)
  else if pk L (i+1)=116 then .ok (9,i+2)
  else if pk L (i+1)=117 then kJ L (i+1)
  else if pk L (i+1)<0∨FN (pk L (i+1))=true then .error (2,i+1)
  else .ok (pk L (i+1),i+2):=by
 unfold dc;rw [if_neg (by rw [h2];decide),if_neg (by rw [h2];decide)]
theorem Cc (r:Int):FN r=true↔(48≤r∧r≤57)∨(97≤r∧r≤122)∨(65≤r∧r≤90):=by
 unfold FN;simp only [Bool.or_eq_true,Bool.and_eq_true,decide_eq_true_eq]
theorem ax.step {w:World} {C:Nat} {A:Option Addr} {n c:Nat} {L:List Int} {i:Nat} (h:ax w C A n c L i) (hi:i<n) :
    w.cell? ⟨C,1,none⟩=some (.int .i64 i)∧w.frozen? ⟨C,1,none⟩=false∧ax (w.setCell ⟨C,1,none⟩ (.int .i64 ((i:Int)+1))) C A n c L (i+1)∧bN w C (w.setCell ⟨C,1,none⟩ (.int .i64 ((i:Int)+1))):=by
 have hm:=h.move (j:=i+1) hi;rw [show(((i+1:Nat)):Int)=(i:Int)+1 by omega]at hm;exact⟨h.blk.cell 1,h.blk.frozen 1,hm,bN.set w C 1 _⟩
theorem DW (w:World) (C:Nat) (A:Option Addr) (n c:Nat) (L:List Int) (i:Nat) (h:ax w C A n c L i) (hL:fU L) :
    Calls Tryz.prog 116 #[.pointer (some ⟨C,0,none⟩)] w (B5 w C A n c L (dc L i)):=by
 have hs:=h.size;have hlen:=h.len;have HL:=qqh hL;have HC:=qqh h;have gS:=qqh (fun(W:World) (k:Nat) (h:ax W C A n c L k)=>mc W C A n c L k h);have sV:=qqh (fun(W:World) (k:Nat)=>og (pk L k) W (hL.pk k));have hw1:IntKind.i64.wrap ((i:Int)+1)=(i:Int)+1:=wrap_small _ (by have:=h.le;omega) (by have:=h.le;omega);have hle:=h.le;clear h hL;obtain⟨R,hR⟩:∃ R,dc L i=R:=⟨_,rfl⟩;rw [hR];have fC:=qqh hR;clear hR;cases hp:dh (pk L i)with
 | true=>
  have hlt:i<L.length:=bE (fun e=>by rw [e]at hp;exact absurd hp (by decide));have ic:=qqh (show R=.ok (pk L i,i+1) from fC.out.symm.trans (Dr hp));have EI:=qqh (fun(W:World)=>show Calls Tryz.prog 113 #[.int .i32 (pk L i)] W fun e w'=>e=.returned (.bool true)∧Below W.heap.size W w' by have:=sV.out W i;rwa [hp]at this);clear hp;go_enter Tryz.func116,Tryz.ntmps116;go_wp2_with fail;refine(gS.out _ _ HC.out).mono ?_;rintro e w1 ⟨rfl,m,rfl⟩;go_wp2_with fail;refine(EI.out _).mono ?_;rintro e w2 ⟨rfl,hb⟩;have mT:=qqh ((HC.out.drewN m).below hb);have bD:=qqh ((bN.drewN w C m).trans (bN.below C hb));clear hb;obtain⟨d1,d2,d3,d4⟩:=mT.out.step (by omega);have oK:=qqh d3;have bG:=qqh (bD.out.trans d4);clear d3 d4;go_wp2_with fail;go_ret;rw [ic.out];exact⟨rfl,oK.out,bG.out⟩
 | false=>
  have EI:=qqh (fun(W:World)=>show Calls Tryz.prog 113 #[.int .i32 (pk L i)] W fun e w'=>e=.returned (.bool false)∧Below W.heap.size W w' by have:=sV.out W i;rwa [hp]at this);by_cases xR:pk L i=92
  ·have hlt:i<L.length:=bE (by omega);have yN:=qqh (fC.out.symm.trans (JO xR));have sQ:=qqh (fun(W:World) (h:ax W C A n c L i)=>show Calls Tryz.prog 41 #[.pointer (some ⟨C,0,none⟩)] W fun e w'=>e=.returned (.int .i32 92)∧∃ m,w'=W.drewN m by have:=gS.out W i h;rwa [xR]at this);rw [xR]at EI;clear hp xR;go_enter Tryz.func116,Tryz.ntmps116;go_wp2_with fail;refine(sQ.out _ HC.out).mono ?_;rintro e w1 ⟨rfl,m,rfl⟩;go_wp2_with fail;refine(EI.out _).mono ?_;rintro e w2 ⟨rfl,hb⟩;have mT:=qqh ((HC.out.drewN m).below hb);have bD:=qqh ((bN.drewN w C m).trans (bN.below C hb));clear hb;obtain⟨d1,d2,d3,d4⟩:=mT.out.step (by omega);have oK:=qqh d3;have bG:=qqh (bD.out.trans d4);clear d3 d4;go_wp2_with fail;refine(gS.out _ _ oK.out).mono ?_;rintro e w3 ⟨rfl,m3,DD⟩;have B8:=qqh (oK.out.drewN m3);have dI:=qqh (bG.out.trans (bN.drewN _ C m3));rw [← DD]at B8 dI;clear DD d1 d2;have xU:IntKind.i64.wrap ((i:Int)+1+1)=(i:Int)+1+1:=wrap_small _ (by omega) (by omega);have abv:=wE HL.out.ok (i+1);have J7:=qqh (fun(W:World) (hc:ax W C A n c L (i+1)) (hlt:i+1<n)=>N4 W C A n c L (i+1) hc HL.out hlt);have hcast:((i+1:Nat):Int)=(i:Int)+1:=(by omega);generalize hr:pk L (i+1)=r at *;by_cases h1:r=110
   ·subst h1;have hlt2:i+1<n:=(by rw [← hlen];exact bE (by omega));have ic:=qqh (show R=.ok (10,i+2) from yN.out);obtain⟨d1,d2,d3,d4⟩:=B8.out.step hlt2;rw [hcast]at d1 d3 d4;have uz:=qqh d3;have dn:=qqh (dI.out.trans d4);clear d3 d4 yN hr;go_wp2_with fail;go_ret;rw [ic.out];exact⟨rfl,uz.out,dn.out⟩
   by_cases h2:r=116
   ·subst h2;have hlt2:i+1<n:=(by rw [← hlen];exact bE (by omega));have ic:=qqh (show R=.ok (9,i+2) from yN.out);obtain⟨d1,d2,d3,d4⟩:=B8.out.step hlt2;rw [hcast]at d1 d3 d4;have uz:=qqh d3;have dn:=qqh (dI.out.trans d4);clear d3 d4 yN hr;go_wp2_with fail;go_ret;rw [ic.out];exact⟨rfl,uz.out,dn.out⟩
   by_cases h3:r=117
   ·subst h3;have hlt2:i+1<n:=(by rw [← hlen];exact bE (by omega));have ic:=qqh (show R=kJ L (i+1) from yN.out);have HX:=qqh (J7.out _ B8.out hlt2);clear yN hr J7;cases hx:kJ L (i+1)with
    | error e0=>
     obtain⟨x,p⟩:=e0;rw [hx]at HX;have gJ:=qqh (ic.out.trans hx);clear hx;go_wp2_with fail;refine HX.out.mono ?_;rintro e w5 ⟨he,hb⟩;unfold aZ at he;subst he;have dn:=qqh (dI.out.trans hb);clear hb;go_wp2_with fail;rw [gJ.out];exact⟨rfl,rfl,dn.out⟩
    | ok q=>
     obtain⟨x,p⟩:=q;rw [hx]at HX;have gJ:=qqh (ic.out.trans hx);clear hx;go_wp2_with fail;refine HX.out.mono ?_;rintro e w5 ⟨rfl,hc,hb⟩;have uz:=qqh hc;have dn:=qqh (dI.out.trans hb);clear hb hc;go_wp2_with fail;go_ret;rw [gJ.out];exact⟨rfl,uz.out,dn.out⟩
   have Pg:=qqh (show R=if r<0∨FN r=true then .error (2,i+1)else .ok (r,i+2) by rw [yN.out,if_neg h1,if_neg h2,if_neg h3]);have q1:(r == 110)=false:=(by simp;exact h1);have q2:(r == 116)=false:=(by simp;exact h2);have q3:(r == 117)=false:=(by simp;exact h3);clear yN h1 h2 h3 J7;by_cases ym:r<0∨FN r=true
   ·have ic:=qqh (show R=.error (2,i+1) by rw [Pg.out,if_pos ym]);have d1:=B8.out.blk.cell 1;have hcell:w3.cell? ⟨C,1,none⟩=some (.int .i64 ((i:Int)+1)):=(by rw [← hcast];exact d1);have HF:=qqh (fun(W:World)=>bZ 2 ((i:Int)+1) W);rw [Cc]at ym;clear Pg d1;rcases (show r<0∨(48≤r∧r≤57)∨(97≤r∧r≤122)∨(65≤r∧r≤90) by omega)with h1 | ⟨h1,h2⟩ | ⟨h1,h2⟩ | ⟨h1,h2⟩
    all_goals
      clear ym
      go_wp2_with fail
      refine(HF.out _).mono ?_
      rintro e w5 ⟨rfl,rfl⟩
      go_wp2_with fail
      rw [ic.out]
      exact⟨rfl,by rw [aZ,hcast],dI.out⟩
   have ic:=qqh (show R=.ok (r,i+2) by rw [Pg.out,if_neg ym]);rw [Cc]at ym;have hlt2:i+1<n:=(by rw [← hlen];exact bE (by omega));obtain⟨d1,d2,d3,d4⟩:=B8.out.step hlt2;rw [hcast]at d1 d3 d4;have uz:=qqh d3;have dn:=qqh (dI.out.trans d4);clear d3 d4 Pg hr;rcases (show(0≤r∧r<48)∨(57<r∧r<65)∨(90<r∧r<97)∨122<r by omega)with ⟨h1,h2⟩ | ⟨h1,h2⟩ | ⟨h1,h2⟩ | h1
   all_goals
     clear ym
     go_wp2_with fail
     go_ret
     rw [ic.out]
     exact⟨rfl,uz.out,dn.out⟩
  have ic:=qqh (show R=.error (2,i) from fC.out.symm.trans (LM hp xR));have ag4:(pk L i != 92)=true:=(by simp [xR]);clear hp;go_enter Tryz.func116,Tryz.ntmps116;go_wp2_with fail;refine(gS.out _ _ HC.out).mono ?_;rintro e w1 ⟨rfl,m,rfl⟩;go_wp2_with fail;refine(EI.out _).mono ?_;rintro e w2 ⟨rfl,hb⟩;have mT:=qqh ((HC.out.drewN m).below hb);have bD:=qqh ((bN.drewN w C m).trans (bN.below C hb));clear hb;have d1:=mT.out.blk.cell 1;go_wp2_with fail;refine(bZ 2 i _).mono ?_;rintro e w3 ⟨rfl,rfl⟩;go_wp2_with fail;rw [ic.out];exact⟨rfl,rfl,bD.out⟩
theorem Cv (W:World) (v:Value):(Instr.typeAssert (.iface 132 v) 20 132 true).run Tryz.prog W=.ok (.tuple #[v,.bool true]) W:=by kernel_rfl
theorem Cd (f:Addr) (w:World) :
    CallsD Tryz.prog 38 #[.pointer (some f)] .returning w fun e u' w'=>e=.returned (.tuple #[])∧u'=.returning∧w'=w:=by
 refine callsD_of_wpS Tryz.func38 rfl fun c₀ cs hu=>?_;apply wpS_seq;apply wpS_region;simp [wpOpsS,go_sem,recoverD,hu,Tryz.ntmps38,Exit.thenS];refine wpS_of_wp ?_;go_wp2_with fail;cases c₀;simp_all [bodyPostS,results,Tryz.results38]
theorem yB (f:Nat) (x p a b:Int) (t:TypeId) (older:List PanicEntry) (w:World) (hf:aj w f t #[.int .i64 a,.int .i64 b]) :
    CallsD Tryz.prog 38 #[.pointer (some ⟨f,0,none⟩)] (.panicking ({ v:=.iface 132 (.agg #[.int .i64 x,.int .i64 p]),recovered:=false } :: older)) w fun e u' w'=>
      e=.returned (.tuple #[])∧u'=.panicking ({ v:=.iface 132 (.agg #[.int .i64 x,.int .i64 p]),recovered:=true } :: older)∧aj w' f t #[.int .i64 x,.int .i64 p]∧bN w f w':=by
 have f0:=hf.frozen 0;have f1:=hf.frozen 1;have c0:=hf.cell 0;have c1:=hf.cell 1;refine callsD_of_wpS Tryz.func38 rfl fun c₀ cs hu=>?_;apply wpS_seq;apply wpS_region;simp [wpOpsS,go_sem,recoverD,hu,Tryz.ntmps38,Exit.thenS];refine wpS_of_wp ?_;have e (V:Value):(#[Value.pointer (some ⟨f,0,none⟩)]++(Array.replicate 14 undef).setIfInBounds 4 V) = #[.pointer (some ⟨f,0,none⟩),undef,undef,undef,undef,V,undef,undef,undef,undef,undef,undef,undef,undef,undef]:=rfl;rw [e];have hlt:=hf.lt;have hta:=fun(W:World) (v:Value)=>Cv W v;go_wp2_with fail;have hB:aj (((w.setCell ⟨f,0,none⟩ (.int .i64 x)).setCell ⟨f,1,none⟩ (.int .i64 p)).alloc (.cells #[.int .i64 x,.int .i64 p] 132)) f t #[.int .i64 x,.int .i64 p]:=((hf.put 0 _).put 1 _).alloc _;have hS:bN w f (((w.setCell ⟨f,0,none⟩ (.int .i64 x)).setCell ⟨f,1,none⟩ (.int .i64 p)).alloc (.cells #[.int .i64 x,.int .i64 p] 132)):=((bN.set w f 0 _).trans (bN.set _ f 1 _)).trans (bN.below f ((Below.refl _ _).alloc (Nat.le_refl _) _));simp [bodyPostS,results,Tryz.results38,hB,hS]
end Go.Proofs.YtkggjgeihhialaaGreatDoor
