/- Cursor + CurFail + CurSkip + CurPlain + CurHex + CurChar + Caught -/
import Derived.Test.YtkggjgeihhialaaGreatDoorZs31
import Derived.Test.YtkggjgeihhialaaGreatDoorZs22
import Derived.Test.YtkggjgeihhialaaGreatDoorZs9
import Derived.Defers
import Derived.Recover
set_option maxHeartbeats 3200000
set_option maxRecDepth 100000
namespace Go.Proofs.YtkggjgeihhialaaGreatDoor
open Go.RowKit
def mo (w:World) (g:Nat) (cs:Array Value):Prop:=∃ t,aj w g t cs
section
variable {w w' : World} {g : Nat} {cs : Array Value}
theorem mo.lt (h:mo w g cs):g<w.heap.size:=let ⟨_,hb⟩:=h;hb.lt
theorem mo.cell (h:mo w g cs) (i:Nat):w.cell? ⟨g,i,none⟩=cs[i]?:=let ⟨_,hb⟩:=h;hb.cell i
theorem mo.frozen (h:mo w g cs) (i:Nat):w.frozen? ⟨g,i,none⟩=false:=let ⟨_,hb⟩:=h;hb.frozen i
theorem mo.drewN (h:mo w g cs) (n:Nat):mo (w.drewN n) g cs:=h
theorem mo.put (h:mo w g cs) (i:Nat) (u:Value):mo (w.setCell ⟨g,i,none⟩ u) g (cs.setIfInBounds i u):=let ⟨t,hb⟩:=h;⟨t,hb.put i u⟩
theorem mo.below {B:Nat} (h:mo w g cs) (hb:Below B w w') (hg:g<B):mo w' g cs:=let ⟨t,hc⟩:=h;⟨t,hc.below hb hg⟩
theorem mo.same (h:mo w g cs) (he:w'.heap[g]? = w.heap[g]?):mo w' g cs:=let ⟨t,hc⟩:=h;⟨t,he.trans hc⟩
end
structure ay (w:World) (C:Nat) (A:Option Addr) (n c:Nat) (L:List Int) (i:Nat):Prop where
  blk:mo w C #[.slice A n c,.int .i64 i]
  row:cy w (fun b=>b≠C) 1 A n (runeCells L)
  size:n≤4611686018427387904
  le:i≤n
  cap:n≤c
theorem ay.len {w:World} {C:Nat} {A:Option Addr} {n c:Nat} {L:List Int} {i:Nat} (h:ay w C A n c L i):L.length=n:=by
 have:=h.row.1;rw [runeCells_length]at this;omega
theorem ay.drewN {w:World} {C:Nat} {A:Option Addr} {n c:Nat} {L:List Int} {i:Nat} (h:ay w C A n c L i) (k:Nat):ay (w.drewN k) C A n c L i :=
  ⟨h.blk.drewN k,h.row.keep (aa.any (below_drewN (Below.refl _ _) k)),h.size,h.le,h.cap⟩
theorem BH (w:World) (C:Nat) (A:Option Addr) (n c:Nat) (L:List Int) (i k:Nat) (h:ay w C A n c L i) (hk:k≤1000) :
    Calls Tryz.prog 67 #[.pointer (some ⟨C,0,none⟩),.int .i64 k] w fun e w'=>e=.returned (.int .i32 (pk L (i+k)))∧∃ m,w'=w.drewN m:=by
 have c0:=h.blk.cell 0;have c1:=h.blk.cell 1;have hl:=h.len;have hs:=h.size;have hi:=h.le;have hw1:IntKind.i64.wrap ((i:Int)+k)=((i+k:Nat):Int):=(by rw [wrap_small _ (by omega) (by omega)];omega);by_cases hlt:i+k<n
 ·obtain⟨x,hx⟩:∃ x,L[i+k]? = some x:=⟨_,List.getElem?_eq_getElem (by omega)⟩;rw [FP hx];obtain⟨b,o,rfl,_,_,hc⟩:=h.row.2 (by omega);have d0:w.cell? ⟨b,o+(i+k),none⟩=some (.int .i32 x):=hc _ _ (by simp [runeCells,hx]);have hg:decide ((n:Int)≤((i+k:Nat):Int))=false:=decide_eq_false (by omega);have hk0:(0:Int)≤((i+k:Nat):Int):=(by omega);have hk1:((i+k:Nat):Int)<(n:Int):=(by omega);clear hc h hx hl;go_enter Tryz.func67,Tryz.ntmps67;go_wp2_with fail;go_quiet (fail);go_wp2_with fail;go_quiet (fail);go_wp2_with fail;go_ret;exact⟨rfl,_,by rw [World.drewN_drewN]⟩
 rw [pG (by omega)];have hg:decide ((n:Int)≤((i+k:Nat):Int))=true:=decide_eq_true (by omega);clear h hl;go_enter Tryz.func67,Tryz.ntmps67;go_wp2_with fail;go_quiet (fail);go_wp2_with fail;go_ret;exact⟨rfl,_,rfl⟩
theorem lE (w:World) (C:Nat) (A:Option Addr) (n c:Nat) (L:List Int) (i:Nat) (h:ay w C A n c L i) :
    Calls Tryz.prog 41 #[.pointer (some ⟨C,0,none⟩)] w fun e w'=>e=.returned (.int .i32 (pk L i))∧∃ m,w'=w.drewN m:=by
 have HL:=qqh (show Calls Tryz.prog 67 #[.pointer (some ⟨C,0,none⟩),.int .i64 0] w fun e w'=>e=.returned (.int .i32 (pk L i))∧∃ m,w'=w.drewN m from BH w C A n c L i 0 h (Nat.zero_le _));clear h;go_enter Tryz.func41,Tryz.ntmps41;go_wp2_with fail;refine HL.out.mono ?_;rintro e w1 ⟨rfl,hm⟩;go_wp2_with fail;go_ret;exact⟨rfl,hm⟩
theorem bT (e p:Int) (w:World) :
    Calls Tryz.prog 39 #[.int .i64 e,.int .i64 p] w fun en w'=>en=.panicked [{ v:=.iface 132 (.agg #[.int .i64 e,.int .i64 p]),recovered:=false }]∧w'=w:=by
 go_enter Tryz.func39,Tryz.ntmps39;go_wp2_with fail;exact⟨rfl,rfl,rfl⟩
theorem rE (r:Int) (w:World) :
    Calls Tryz.prog 93 #[.int .i32 r] w fun e w'=>e=.returned (.bool (pF r))∧w'=w:=by
 go_enter Tryz.func93,Tryz.ntmps93;go_wp2;(all_goals go_ret);(all_goals refine⟨bD ?_,rfl⟩);(all_goals (rw [Bool.eq_iff_iff];simp [pF];try omega))
def aW (e p:Int):Ending:=.panicked [{ v:=.iface 132 (.agg #[.int .i64 e,.int .i64 p]),recovered:=false }]
theorem ay.move {w:World} {C:Nat} {A:Option Addr} {n c:Nat} {L:List Int} {i j:Nat} (h:ay w C A n c L i) (hj:j≤n):ay (w.setCell ⟨C,1,none⟩ (.int .i64 j)) C A n c L j :=
  ⟨h.blk.put 1 _,h.row.keep (aa.setCell (p:=⟨C,1,none⟩) _ (fun _ hb=>hb) (fun _ h _=>h)),h.size,hj,h.cap⟩
theorem eZ (w:World) (C:Nat) (A:Option Addr) (n c:Nat) (L:List Int) (i:Nat) (r:Int) (h:ay w C A n c L i) (hr:r ≠ -1) :
    Calls Tryz.prog 43 #[.pointer (some ⟨C,0,none⟩),.int .i32 r] w fun e w'=>
      match aR L i r with
      | .ok j=>e=.returned (.tuple #[])∧ay w' C A n c L j∧aZ w C w'
      | .error (x,p)=>e=aW x p∧aZ w C w':=by
 have gD:=qqh (lE w C A n c L i h);have HC:=qqh h;have hs:=h.size;have hi:=h.le;have hl:=h.len;have hw1:IntKind.i64.wrap ((i:Int)+1)=((i+1:Nat):Int):=(by rw [wrap_small _ (by omega) (by omega)];omega);clear h;unfold aR;by_cases he:pk L i=r
 ·have hlt:i<L.length:=bu (by omega);rw [if_pos he];have hg:decide (pk L i=r)=true:=decide_eq_true he;go_enter Tryz.func43,Tryz.ntmps43;go_wp2_with fail;refine gD.out.mono ?_;rintro e w1 ⟨rfl,m,rfl⟩;have iJ:=qqh (HC.out.drewN m);have c0:=iJ.out.blk.cell 0;have c1:=iJ.out.blk.cell 1;have f1:=iJ.out.blk.frozen 1;go_wp2_with fail;have hm:=iJ.out.move (j:=i+1) (by omega);rw [show(((i+1:Nat)):Int)=(i:Int)+1 by omega]at hm;go_end0;exact⟨rfl,hm,(aZ.drewN w C m).trans (aZ.set _ C 1 _)⟩
 rw [if_neg he];go_enter Tryz.func43,Tryz.ntmps43;go_wp2_with fail;refine gD.out.mono ?_;rintro e w1 ⟨rfl,m,rfl⟩;have iJ:=qqh (HC.out.drewN m);have c0:=iJ.out.blk.cell 0;have c1:=iJ.out.blk.cell 1;go_wp2_with fail;refine(bT 2 i _).mono ?_;rintro e w2 ⟨rfl,rfl⟩;go_wp2_with fail;exact⟨rfl,rfl,aZ.drewN w C m⟩
theorem ir (w:World) (C:Nat) (A:Option Addr) (n c:Nat) (L:List Int) (i:Nat) (h:ay w C A n c L i) :
    Calls Tryz.prog 66 #[.pointer (some ⟨C,0,none⟩)] w fun e w'=>e=.returned (.tuple #[])∧ay w' C A n c L (aN L i)∧aZ w C w':=by
 have HC:=qqh h;have hs:=h.size;have hl:=h.len;clear h;go_enter Tryz.func66,Tryz.ntmps66;go_wp2_with fail;go_loopw [2] (fun _ wr=>∃ j,j≤n∧aN L i=aN L j∧ay wr C A n c L j∧aZ w C wr) (fun _ wr=>n - (match wr.cell? ⟨C,1,none⟩with | some (.int _ j)=>j.toNat | _=>0));(case atStart=>exact⟨i,HC.out.le,rfl,HC.out,aZ.refl _ _⟩);obtain⟨j,hj,xZ,hc,hb⟩:=hrel;have HJ:=qqh hc;have HB:=qqh hb;have HS:=qqh xZ;have gD:=qqh (lE wr C A n c L j hc);have hm0:=hc.blk.cell 1;have nT:=qqh hm0;have hw1:IntKind.i64.wrap ((j:Int)+1)=((j+1:Nat):Int):=(by rw [wrap_small _ (by omega) (by omega)];omega);clear hc hb xZ hm0;go_wp2_with fail;refine gD.out.mono ?_;rintro e w1 ⟨rfl,m,rfl⟩;have iJ:=qqh (HJ.out.drewN m);go_wp2_with fail;refine(rE _ _).mono ?_;rintro e w2 ⟨rfl,rfl⟩;by_cases eD:pF (pk L j)=true
 ·rw [eD];have hlt:j<L.length:=bu (fun e=>by rw [e]at eD;exact absurd eD (by decide));have c0:=iJ.out.blk.cell 0;have c1:=iJ.out.blk.cell 1;have f1:=iJ.out.blk.frozen 1;have Py:=iJ.out.move (j:=j+1) (by omega);rw [show(((j+1:Nat)):Int)=(j:Int)+1 by omega]at Py;have sV:=qqh Py;clear Py;go_wp2_with fail;refine⟨⟨j+1,by omega,HS.out.trans (dN hlt eD),sV.out,(HB.out.trans (aZ.drewN wr C m)).trans (aZ.set _ C 1 _)⟩,?_⟩;have e1:((wr.drewN m).setCell ⟨C,1,none⟩ (.int .i64 ((j:Int)+1))).cell? ⟨C,1,none⟩=some (.int .i64 ((j+1:Nat):Int)):=sV.out.blk.cell 1;have e2:wr.cell? ⟨C,1,none⟩=some (.int .i64 (j:Int)):=nT.out;rw [e1,e2];simp only [Int.toNat_natCast];omega
 rw [Bool.not_eq_true]at eD;rw [eD];go_wp2_with fail;go_end0;refine⟨rfl,?_,HB.out.trans (aZ.drewN wr C m)⟩;rw [HS.out,show aN L j=j from cJ (fun _=>eD)];exact iJ.out
def Ee (r:Int):Prop:=r = -1∨Utf8.valid r=true
def pT:ByteArray:=⟨#[91,93,38,45,94,92,58,36,40,41,123,125,60,62,124,59,35,39,34,61,44]⟩
theorem CR (r:Int):(pT.data.toList.any fun b=>decide ((b.toNat:Int)=r))=qp.contains r:=by
 rw [Bool.eq_iff_iff];simp [pT,qp];omega
theorem nx (r:Int) (w:World) (hr:Ee r) :
    Calls Tryz.prog 113 #[.int .i32 r] w fun e w'=>e=.returned (.bool (cW r))∧Below w.heap.size w w':=by
 have HS:=qqh (show Calls Tryz.prog 133 #[.string pT,.int .i32 r] w fun e w'=>e=.returned (.bool (qp.contains r))∧Below w.heap.size w w' by
  have:=om pT r w (by decide) (by decide) (by decide) hr;rw [CR]at this;exact this)
 clear hr;unfold cW;by_cases h0:0≤r
 ·have hd:decide (0≤r)=true:=decide_eq_true h0;rw [hd];cases hb:pF r
  ·go_enter Tryz.func113,Tryz.ntmps113;go_wp2_with fail;refine(rE _ _).mono ?_;rintro e w1 ⟨rfl,hw⟩;rw [hw,hb];go_wp2_with fail;refine HS.out.mono ?_;rintro e w2 ⟨rfl,aQ⟩;go_wp2_with fail;go_ret;exact⟨by simp,aQ⟩
  go_enter Tryz.func113,Tryz.ntmps113;go_wp2_with fail;refine(rE _ _).mono ?_;rintro e w1 ⟨rfl,hw⟩;rw [hw,hb];go_wp2_with fail;go_ret;exact⟨by simp,Below.refl _ _⟩
 have hd:decide (0≤r)=false:=decide_eq_false h0;rw [hd];go_enter Tryz.func113,Tryz.ntmps113;go_wp2_with fail;go_ret;exact⟨by simp,Below.refl _ _⟩
def fN (L:List Int):Prop:=∀ x∈L,Utf8.valid x=true
theorem fN.ok {L:List Int} (h:fN L):cn L:=fun x hx=>by
 have:=h x hx;simp [Utf8.valid]at this;omega
theorem fN.pk {L:List Int} (h:fN L) (i:Nat):Ee (pk L i):=by
 unfold Go.Proofs.YtkggjgeihhialaaGreatDoor.pk;cases hi:L[i]? with
 | none=>exact .inl rfl
 | some x=>exact .inr (h x (List.mem_of_getElem? hi))
theorem ay.at {w:World} {C:Nat} {A:Option Addr} {n c:Nat} {L:List Int} {i:Nat} (h:ay w C A n c L i) (h0:0<n) :
    ∃ b off,A=some ⟨b,off,none⟩∧b<w.heap.size∧∀ j x,L[j]? = some x→w.cell? ⟨b,off+j,none⟩=some (.int .i32 x):=by
 obtain⟨b,off,e,_,hb,hc⟩:=h.row.2 h0;exact⟨b,off,e,hb,fun j x hx=>hc j _ (by rw [eC,hx];rfl)⟩
theorem vF {w:World} {C:Nat} {b off n c:Nat} {L:List Int} {k:Nat} (h:ay w C (some ⟨b,off,none⟩) n c L k) {i j:Nat} (hij:i≤j) (hj:j≤n) :
    (convert 33 9 (.slice (if c=i then some ⟨b,off,none⟩else some ⟨b,off+i,none⟩) (j - i) (c - i))).run Tryz.prog w=.ok (.string (runesBytes (aL L i j))) w:=by
 have hlen:=h.len;have hcap:=h.cap;by_cases hn:0<n
 ·obtain⟨b',off',e,_,hc⟩:=h.at hn;cases e;have key:∀ (o:Nat),o=off+i∨j - i=0→(convert 33 9 (.slice (some ⟨b,o,none⟩) (j - i) (c - i))).run Tryz.prog w=.ok (.string (runesBytes (aL L i j))) w:=by
   intro o ho;rcases ho with rfl | ho
   ·have:=run_convert_runes (P:=Tryz.prog) w 33 9 21 ⟨b,off+i,none⟩ (j - i) (c - i) (aL L i j) (by unfold aL;rw [List.length_take,List.length_drop];omega) Tryz.underlying33 Tryz.underlying21 Tryz.underlying9 (fun q hq=>by
     rw [gX,Nat.add_assoc];unfold aL at hq ⊢;rw [List.length_take,List.length_drop]at hq;refine hc (i+q) _ ?_;rw [List.getD_eq_getElem?_getD,List.getElem?_take_of_lt (by omega),List.getElem?_drop];rw [List.getElem?_eq_getElem (by omega)];rfl)
    rw [show(aL L i j).take (j - i)=aL L i j from List.take_of_length_le (by unfold aL;rw [List.length_take];omega)]at this;exact this
   have:=run_convert_runes (P:=Tryz.prog) w 33 9 21 ⟨b,o,none⟩ (j - i) (c - i) [] (by rw [ho];simp) Tryz.underlying33 Tryz.underlying21 Tryz.underlying9 (fun q hq=>by simp at hq);rw [show([]:List Int).take (j - i)=aL L i j by unfold aL;rw [ho];simp]at this;exact this
  split;exact key _ (.inr (by omega));exact key _ (.inl rfl)
 have:=run_convert_runes (P:=Tryz.prog) w 33 9 21 (if c=i then ⟨b,off,none⟩else ⟨b,off+i,none⟩) (j - i) (c - i) [] (by rw [show j - i=0 by omega];simp) Tryz.underlying33 Tryz.underlying21 Tryz.underlying9 (fun q hq=>by simp at hq);have e:(if c=i then some (⟨b,off,none⟩:Addr)else some ⟨b,off+i,none⟩)=some (if c=i then (⟨b,off,none⟩:Addr)else ⟨b,off+i,none⟩):=(by split <;> rfl);rw [show([]:List Int).take (j - i)=aL L i j by unfold aL;rw [show j - i=0 by omega];simp]at this;rw [e];exact this
def Bo (w:World) (C:Nat) (A:Option Addr) (n c:Nat) (L:List Int) (r:jP Int) (e:Ending) (w':World):Prop :=
  match r with
  | .ok (x,j)=>e=.returned (.int .i32 x)∧ay w' C A n c L j∧aZ w C w'
  | .error (x,p)=>e=aW x p∧aZ w C w'
def MU:ByteArray:=⟨#[48,49,50,51,52,53,54,55,56,57,97,98,99,100,101,102,65,66,67,68,69,70]⟩
theorem Nb (r:Int):(MU.data.toList.any fun b=>decide ((b.toNat:Int)=r))=eM r:=by
 rw [Bool.eq_iff_iff];simp [MU,eM];omega
theorem Ak (r:Int) (w:World) (hr:Ee r) :
    Calls Tryz.prog 133 #[.string MU,.int .i32 r] w fun e w'=>e=.returned (.bool (eM r))∧Below w.heap.size w w':=by
 have:=om MU r w (by decide) (by decide) (by decide) hr;rw [Nb]at this;exact this
theorem ay.below {w w':World} {C:Nat} {A:Option Addr} {n c:Nat} {L:List Int} {i:Nat} (h:ay w C A n c L i) (hb:Below w.heap.size w w'):ay w' C A n c L i :=
  ⟨h.blk.below hb h.blk.lt,h.row.keep (aa.any hb),h.size,h.le,h.cap⟩
theorem NA {L:List Int} {i:Nat} {e:Int × Nat} (h:aR L (i+1) 123=.error e):ku L i=.error e:=by unfold ku;rw [h]
theorem FD {L:List Int} {i a r:Nat} (h:aR L (i+1) 123=.ok a) (hr:r=aC eM L a) (hb:r - a<1∨6<r - a):ku L i=.error (2,a):=by
 subst hr;unfold ku;rw [h];simp only;rw [if_pos hb]
theorem Oq {L:List Int} {i a r:Nat} {e:Int × Nat} (h:aR L (i+1) 123=.ok a) (hr:r=aC eM L a) (hb:¬(r - a<1∨6<r - a)) (h2:aR L r 125=.error e):ku L i=.error e:=by
 subst hr;unfold ku;rw [h];simp only;rw [if_neg hb,h2]
theorem N0 {L:List Int} {i a r k:Nat} (h:aR L (i+1) 123=.ok a) (hr:r=aC eM L a) (hb:¬(r - a<1∨6<r - a)) (h2:aR L r 125=.ok k) (h3:1114111<ee (aL L a r)):ku L i=.error (3,i):=by
 subst hr;unfold ku;rw [h];simp only;rw [if_neg hb,h2];simp only;rw [if_pos h3]
theorem Ra {L:List Int} {i a r k:Nat} (h:aR L (i+1) 123=.ok a) (hr:r=aC eM L a) (hb:¬(r - a<1∨6<r - a)) (h2:aR L r 125=.ok k) (h3:¬ 1114111<ee (aL L a r)):ku L i=.ok (ee (aL L a r),k):=by
 subst hr;unfold ku;rw [h];simp only;rw [if_neg hb,h2];simp only;rw [if_neg h3]
def V0 (w:World) (C:Nat) (A:Option Addr) (n c:Nat) (L:List Int) (a r:Nat) (wr:World):Prop :=
  ∃ j,a≤j∧j≤n∧r=aC eM L j∧ay wr C A n c L j∧aZ w C wr
theorem Ol (w:World) (C:Nat) (A:Option Addr) (n c:Nat) (L:List Int) (i:Nat) (h:ay w C A n c L i) (hL:fN L) (hi:i<n) :
    Calls Tryz.prog 135 #[.pointer (some ⟨C,0,none⟩)] w (Bo w C A n c L (ku L i)):=by
 have hs:=h.size;have hlen:=h.len;obtain⟨b,off,rfl,_,_⟩:=h.at (by omega);have HL:=qqh hL;have c0:=h.blk.cell 0;have c1:=h.blk.cell 1;have f1:=h.blk.frozen 1;have hw1:IntKind.i64.wrap ((i:Int)+1)=((i+1:Nat):Int):=(by rw [wrap_small _ (by omega) (by omega)];omega);have hm:=h.move (j:=i+1) (by omega);have Qz:=aZ.set w C 1 (.int .i64 ((i+1:Nat):Int));rw [show(((i+1:Nat)):Int)=(i:Int)+1 by omega]at hm Qz;have HM:=qqh hm;have bR:=qqh Qz;clear hL hm h Qz;obtain⟨R,hR⟩:∃ R,ku L i=R:=⟨_,rfl⟩;rw [hR];have fO:=qqh hR;clear hR;cases hn:aR L (i+1) 123 with
 | error e0=>
  obtain⟨x,p⟩:=e0;have HN:=qqh (eZ _ C _ n c L (i+1) 123 HM.out (by decide));rw [hn]at HN;go_enter Tryz.func135,Tryz.ntmps135;go_wp2_with fail;refine HN.out.mono ?_;rintro e w1 ⟨he,hb⟩;unfold aW at he;subst he;have tB:=qqh (bR.out.trans hb);clear hb HN;go_wp2_with fail;rw [show R=_ from fO.out.symm.trans (NA hn)];exact⟨rfl,rfl,tB.out⟩
 | ok a=>
  have QI:=qqh hn;obtain⟨rfl,hpk⟩:=fJ hn;have HN:=qqh (eZ _ C _ n c L (i+1) 123 HM.out (by decide));rw [hn]at HN;have hi1:i+1<n:=(by rw [← hlen];exact bu (by rw [hpk];decide));clear hn;generalize ha:i+1+1=a at *;have yQ:=qqh (uS eM L a);generalize hr:aC eM L a=r at *;have jz:=qqh hr.symm;clear hr;go_enter Tryz.func135,Tryz.ntmps135;go_wp2_with fail;refine HN.out.mono ?_;rintro e w1 ⟨rfl,hc,hb⟩;have HC:=qqh hc;have bt:=qqh (bR.out.trans hb);have g0:=hc.blk.cell 0;have g1:=hc.blk.cell 1;clear hb hc HN bR HM;go_wp2_with fail;go_loopw [25] (fun _ wr=>V0 w C (some ⟨b,off,none⟩) n c L a r wr) (fun _ wr=>n - (match wr.cell? ⟨C,1,none⟩with | some (.int _ j)=>j.toNat | _=>0));(case atStart=>exact⟨a,Nat.le_refl _,HC.out.le,jz.out,HC.out,bt.out⟩);obtain⟨j,haj,hj,hrun,sI,zz⟩:=hrel;have HJ:=qqh sI;have HB:=qqh zz;have HR:=qqh hrun;have gD:=qqh (fun(W:World) (h:ay W C (some ⟨b,off,none⟩) n c L j)=>lE W C (some ⟨b,off,none⟩) n c L j h);have nT:=qqh (sI.blk.cell 1);have hok:=HL.out.pk j;have Jb:=qqh (fun(W:World)=>Ak (pk L j) W hok);clear sI zz hrun;by_cases C3:eM (pk L j)=true
  ·rw [C3]at Jb;have hlt:j<L.length:=bu (fun e=>by rw [e]at C3;exact absurd C3 (by decide));have h0:0≤pk L j:=(nj (l:=[pk L j]) (by simpa using C3) _ (by simp)).1;have hg:decide (0≤pk L j)=true:=decide_eq_true h0;have xP:IntKind.i64.wrap ((j:Int)+1)=((j+1:Nat):Int):=(by rw [wrap_small _ (by omega) (by omega)];omega);go_wp2_with fail;refine(gD.out _ HJ.out).mono ?_;rintro e w2 ⟨rfl,m,rfl⟩;go_wp2_with fail;refine(Jb.out _).mono ?_;rintro e w3 ⟨rfl,bJ⟩;have kY:=qqh ((HJ.out.drewN m).below bJ);have bN:=qqh ((HB.out.trans (aZ.drewN wr C m)).trans (aZ.below C bJ));clear bJ;go_wp2_with fail;refine(gD.out _ kY.out).mono ?_;rintro e w4 ⟨rfl,m2,rfl⟩;have iJ:=qqh (kY.out.drewN m2);have d0:=iJ.out.blk.cell 0;have d1:=iJ.out.blk.cell 1;have f2:=iJ.out.blk.frozen 1;have Py:=iJ.out.move (j:=j+1) (by omega);rw [show(((j+1:Nat)):Int)=(j:Int)+1 by omega]at Py;have sV:=qqh Py;clear Py;go_wp2_with fail;refine⟨⟨j+1,by omega,by omega,HR.out.trans (dN hlt C3),sV.out,(bN.out.trans (aZ.drewN w3 C m2)).trans (aZ.set _ C 1 _)⟩,?_⟩;have e1:((w3.drewN m2).setCell ⟨C,1,none⟩ (.int .i64 ((j:Int)+1))).cell? ⟨C,1,none⟩=some (.int .i64 ((j+1:Nat):Int)):=sV.out.blk.cell 1;have e2:wr.cell? ⟨C,1,none⟩=some (.int .i64 (j:Int)):=nT.out;rw [e1,e2];simp only [Int.toNat_natCast];omega
  rw [Bool.not_eq_true]at C3;rw [C3]at Jb;obtain rfl:r=j:=HR.out.trans (cJ (fun _=>C3));clear HR;go_wp2_with fail;refine(gD.out _ HJ.out).mono ?_;rintro e w2 ⟨rfl,m,rfl⟩;go_wp2_with fail;refine(Jb.out _).mono ?_;rintro e w3 ⟨rfl,bJ⟩;have kY:=qqh ((HJ.out.drewN m).below bJ);have bN:=qqh ((HB.out.trans (aZ.drewN wr C m)).trans (aZ.below C bJ));clear bJ;have d0:=kY.out.blk.cell 0;have d1:=kY.out.blk.cell 1;have su:=fun q=>vF (kY.out.drewN q) haj hj;have hk1:(a:Int)≤(r:Int):=(by omega);have hk2:(r:Int)≤(c:Int):=(by have:=kY.out.cap;omega);have Pe:(0:Int)≤(a:Int):=(by omega);have hds:∀ d∈aL L a r,eM d=true:=(by rw [yQ.out];exact oB _);have HDS:=qqh hds;have U6:(aL L a r).length=r - a:=(by unfold aL;rw [List.length_take,List.length_drop];omega);have hsz:(runesBytes (aL L a r)).size=r - a:=(by rw [sU (nj hds),U6]);have xo:=qqh (ff (nj hds));generalize runesBytes (aL L a r)=s at *;clear hds;go_wp2_with fail;go_quiet (fail);have HJQ:=qqh (kY.out.drewN nq);have Nu:=qqh (bN.out.trans (aZ.drewN w3 C nq));generalize w3.drewN nq=wq at HJQ Nu ⊢;generalize (if c=a then some ({ block:=b,off:=off }:Addr)else some { block:=b,off:=off+a })=Z;clear su d0 d1 kY bN HJ HB nT hk1 hk2 Pe;rcases (show r - a<1∨6<r - a∨(1≤r - a∧r - a≤6) by omega)with xw | xw | ⟨Nz,NM⟩
  ·have hz:s.size=0:=(by omega);have HF:=qqh (fun(W:World)=>bT 2 a W);go_wp2_with fail;refine(HF.out _).mono ?_;rintro e w5 ⟨rfl,rfl⟩;go_wp2_with fail;rw [show R=_ from fO.out.symm.trans (FD QI.out jz.out (.inl xw))];exact⟨rfl,rfl,Nu.out⟩
  ·have HF:=qqh (fun(W:World)=>bT 2 a W);have hq1:decide ((s.size:Int)<1)=false:=decide_eq_false (by omega);have MP:decide ((6:Int)<(s.size:Int))=true:=decide_eq_true (by omega);go_wp2_with fail;refine(HF.out _).mono ?_;rintro e w5 ⟨rfl,rfl⟩;go_wp2_with fail;rw [show R=_ from fO.out.symm.trans (FD QI.out jz.out (.inr xw))];exact⟨rfl,rfl,Nu.out⟩
  have hq1:decide ((s.size:Int)<1)=false:=decide_eq_false (by omega);have MP:decide ((6:Int)<(s.size:Int))=false:=decide_eq_false (by omega);have HN:=qqh (eZ wq C _ n c L r 125 HJQ.out (by decide));have GO:=qqh (show ¬(r - a<1∨6<r - a) by omega);cases hn2:aR L r 125 with
  | error e0=>
   obtain⟨x,p⟩:=e0;rw [hn2]at HN;go_wp2_with fail;refine HN.out.mono ?_;rintro e w5 ⟨he,hb⟩;unfold aW at he;subst he;have tB:=qqh (Nu.out.trans hb);clear hb HN;go_wp2_with fail;rw [show R=_ from fO.out.symm.trans (Oq QI.out jz.out GO.out hn2)];exact⟨rfl,rfl,tB.out⟩
  | ok k=>
   rw [hn2]at HN;have Jc:=qqh hn2;obtain⟨x0,x1⟩:=lS (l:=aL L a r) HDS.out (by omega);have HPI:=qqh (fun(W:World)=>Ho s (aL L a r) W xo.out HDS.out (by omega) (by omega));generalize hX:ee (aL L a r)=X at *;have OD:=qqh hX;clear hX hn2;go_wp2_with fail;refine HN.out.mono ?_;rintro e w5 ⟨rfl,kX,cY⟩;have tj:=qqh kX;have cZ:=qqh (Nu.out.trans cY);clear kX cY;go_wp2_with fail;refine(HPI.out _).mono ?_;rintro e w6 ⟨rfl,dR⟩;have GR:=qqh (tj.out.below dR);have gG:=qqh (cZ.out.trans (aZ.below C dR));clear dR;by_cases hbig:1114111<X
   ·have HF:=qqh (fun(W:World)=>bT 3 i W);go_wp2_with fail;refine(HF.out _).mono ?_;rintro e w7 ⟨rfl,rfl⟩;go_wp2_with fail;rw [show R=_ from fO.out.symm.trans (N0 QI.out jz.out GO.out Jc.out (by rw [OD.out];exact hbig))];exact⟨rfl,rfl,gG.out⟩
   have hwx:IntKind.i32.wrap X=X:=IntWalk.i32_in _ (by omega);go_wp2_with fail;go_ret;rw [show R=_ from fO.out.symm.trans (Ra QI.out jz.out GO.out Jc.out (by rw [OD.out];omega)),OD.out];exact⟨rfl,GR.out,gG.out⟩
theorem AZ {L:List Int} {i:Nat} (h:cW (pk L i)=true):cT L i=.ok (pk L i,i+1):=by unfold cT;rw [if_pos h]
theorem Kw {L:List Int} {i:Nat} (h:cW (pk L i)=false) (h2:pk L i≠92):cT L i=.error (2,i):=by unfold cT;rw [if_neg (by rw [h];decide),if_pos h2]
theorem H9 {L:List Int} {i:Nat} (h2:pk L i=92):cT L i=if pk L (i+1)=110 then .ok (10,i+2)
  else if pk L (i+1)=116 then .ok (9,i+2)
  else if pk L (i+1)=117 then ku L (i+1)
  else if pk L (i+1)<0∨EF (pk L (i+1))=true then .error (2,i+1)
  else .ok (pk L (i+1),i+2):=by
 unfold cT;rw [if_neg (by rw [h2];decide),if_neg (by rw [h2];decide)]
theorem Cz (r:Int):EF r=true↔(48≤r∧r≤57)∨(97≤r∧r≤122)∨(65≤r∧r≤90):=by
 unfold EF;simp only [Bool.or_eq_true,Bool.and_eq_true,decide_eq_true_eq]
theorem ay.step {w:World} {C:Nat} {A:Option Addr} {n c:Nat} {L:List Int} {i:Nat} (h:ay w C A n c L i) (hi:i<n) :
    w.cell? ⟨C,1,none⟩=some (.int .i64 i)∧w.frozen? ⟨C,1,none⟩=false∧ay (w.setCell ⟨C,1,none⟩ (.int .i64 ((i:Int)+1))) C A n c L (i+1)∧aZ w C (w.setCell ⟨C,1,none⟩ (.int .i64 ((i:Int)+1))):=by
 have hm:=h.move (j:=i+1) hi;rw [show(((i+1:Nat)):Int)=(i:Int)+1 by omega]at hm;exact⟨h.blk.cell 1,h.blk.frozen 1,hm,aZ.set w C 1 _⟩
theorem B8 (w:World) (C:Nat) (A:Option Addr) (n c:Nat) (L:List Int) (i:Nat) (h:ay w C A n c L i) (hL:fN L) :
    Calls Tryz.prog 116 #[.pointer (some ⟨C,0,none⟩)] w (Bo w C A n c L (cT L i)):=by
 have hs:=h.size;have hlen:=h.len;have HL:=qqh hL;have HC:=qqh h;have gD:=qqh (fun(W:World) (k:Nat) (h:ay W C A n c L k)=>lE W C A n c L k h);have sn:=qqh (fun(W:World) (k:Nat)=>nx (pk L k) W (hL.pk k));have hw1:IntKind.i64.wrap ((i:Int)+1)=(i:Int)+1:=wrap_small _ (by have:=h.le;omega) (by have:=h.le;omega);have hle:=h.le;clear h hL;obtain⟨R,hR⟩:∃ R,cT L i=R:=⟨_,rfl⟩;rw [hR];have fO:=qqh hR;clear hR;cases hp:cW (pk L i)with
 | true=>
  have hlt:i<L.length:=bu (fun e=>by rw [e]at hp;exact absurd hp (by decide));have gI:=qqh (show R=.ok (pk L i,i+1) from fO.out.symm.trans (AZ hp));have JQ:=qqh (fun(W:World)=>show Calls Tryz.prog 113 #[.int .i32 (pk L i)] W fun e w'=>e=.returned (.bool true)∧Below W.heap.size W w' by have:=sn.out W i;rwa [hp]at this);clear hp;go_enter Tryz.func116,Tryz.ntmps116;go_wp2_with fail;refine(gD.out _ _ HC.out).mono ?_;rintro e w1 ⟨rfl,m,rfl⟩;go_wp2_with fail;refine(JQ.out _).mono ?_;rintro e w2 ⟨rfl,hb⟩;have lT:=qqh ((HC.out.drewN m).below hb);have bt:=qqh ((aZ.drewN w C m).trans (aZ.below C hb));clear hb;obtain⟨d1,d2,d3,d4⟩:=lT.out.step (by omega);have nZ:=qqh d3;have bN:=qqh (bt.out.trans d4);clear d3 d4;go_wp2_with fail;go_ret;rw [gI.out];exact⟨rfl,nZ.out,bN.out⟩
 | false=>
  have JQ:=qqh (fun(W:World)=>show Calls Tryz.prog 113 #[.int .i32 (pk L i)] W fun e w'=>e=.returned (.bool false)∧Below W.heap.size W w' by have:=sn.out W i;rwa [hp]at this);by_cases wL:pk L i=92
  ·have hlt:i<L.length:=bu (by omega);have Db:=qqh (fO.out.symm.trans (H9 wL));have ri:=qqh (fun(W:World) (h:ay W C A n c L i)=>show Calls Tryz.prog 41 #[.pointer (some ⟨C,0,none⟩)] W fun e w'=>e=.returned (.int .i32 92)∧∃ m,w'=W.drewN m by have:=gD.out W i h;rwa [wL]at this);rw [wL]at JQ;clear hp wL;go_enter Tryz.func116,Tryz.ntmps116;go_wp2_with fail;refine(ri.out _ HC.out).mono ?_;rintro e w1 ⟨rfl,m,rfl⟩;go_wp2_with fail;refine(JQ.out _).mono ?_;rintro e w2 ⟨rfl,hb⟩;have lT:=qqh ((HC.out.drewN m).below hb);have bt:=qqh ((aZ.drewN w C m).trans (aZ.below C hb));clear hb;obtain⟨d1,d2,d3,d4⟩:=lT.out.step (by omega);have nZ:=qqh d3;have bN:=qqh (bt.out.trans d4);clear d3 d4;go_wp2_with fail;refine(gD.out _ _ nZ.out).mono ?_;rintro e w3 ⟨rfl,m3,EL⟩;have CD:=qqh (nZ.out.drewN m3);have ej:=qqh (bN.out.trans (aZ.drewN _ C m3));rw [← EL]at CD ej;clear EL d1 d2;have xP:IntKind.i64.wrap ((i:Int)+1+1)=(i:Int)+1+1:=wrap_small _ (by omega) (by omega);have Zk:=vE HL.out.ok (i+1);have Jb:=qqh (fun(W:World) (hc:ay W C A n c L (i+1)) (hlt:i+1<n)=>Ol W C A n c L (i+1) hc HL.out hlt);have hcast:((i+1:Nat):Int)=(i:Int)+1:=(by omega);generalize hr:pk L (i+1)=r at *;by_cases h1:r=110
   ·subst h1;have hlt2:i+1<n:=(by rw [← hlen];exact bu (by omega));have gI:=qqh (show R=.ok (10,i+2) from Db.out);obtain⟨d1,d2,d3,d4⟩:=CD.out.step hlt2;rw [hcast]at d1 d3 d4;have tj:=qqh d3;have cZ:=qqh (ej.out.trans d4);clear d3 d4 Db hr;go_wp2_with fail;go_ret;rw [gI.out];exact⟨rfl,tj.out,cZ.out⟩
   by_cases h2:r=116
   ·subst h2;have hlt2:i+1<n:=(by rw [← hlen];exact bu (by omega));have gI:=qqh (show R=.ok (9,i+2) from Db.out);obtain⟨d1,d2,d3,d4⟩:=CD.out.step hlt2;rw [hcast]at d1 d3 d4;have tj:=qqh d3;have cZ:=qqh (ej.out.trans d4);clear d3 d4 Db hr;go_wp2_with fail;go_ret;rw [gI.out];exact⟨rfl,tj.out,cZ.out⟩
   by_cases h3:r=117
   ·subst h3;have hlt2:i+1<n:=(by rw [← hlen];exact bu (by omega));have gI:=qqh (show R=ku L (i+1) from Db.out);have HX:=qqh (Jb.out _ CD.out hlt2);clear Db hr Jb;cases hx:ku L (i+1)with
    | error e0=>
     obtain⟨x,p⟩:=e0;rw [hx]at HX;have gM:=qqh (gI.out.trans hx);clear hx;go_wp2_with fail;refine HX.out.mono ?_;rintro e w5 ⟨he,hb⟩;unfold aW at he;subst he;have cZ:=qqh (ej.out.trans hb);clear hb;go_wp2_with fail;rw [gM.out];exact⟨rfl,rfl,cZ.out⟩
    | ok q=>
     obtain⟨x,p⟩:=q;rw [hx]at HX;have gM:=qqh (gI.out.trans hx);clear hx;go_wp2_with fail;refine HX.out.mono ?_;rintro e w5 ⟨rfl,hc,hb⟩;have tj:=qqh hc;have cZ:=qqh (ej.out.trans hb);clear hb hc;go_wp2_with fail;go_ret;rw [gM.out];exact⟨rfl,tj.out,cZ.out⟩
   have NB:=qqh (show R=if r<0∨EF r=true then .error (2,i+1)else .ok (r,i+2) by rw [Db.out,if_neg h1,if_neg h2,if_neg h3]);have q1:(r == 110)=false:=(by simp;exact h1);have q2:(r == 116)=false:=(by simp;exact h2);have q3:(r == 117)=false:=(by simp;exact h3);clear Db h1 h2 h3 Jb;by_cases xw:r<0∨EF r=true
   ·have gI:=qqh (show R=.error (2,i+1) by rw [NB.out,if_pos xw]);have d1:=CD.out.blk.cell 1;have hcell:w3.cell? ⟨C,1,none⟩=some (.int .i64 ((i:Int)+1)):=(by rw [← hcast];exact d1);have HF:=qqh (fun(W:World)=>bT 2 ((i:Int)+1) W);rw [Cz]at xw;clear NB d1;rcases (show r<0∨(48≤r∧r≤57)∨(97≤r∧r≤122)∨(65≤r∧r≤90) by omega)with h1 | ⟨h1,h2⟩ | ⟨h1,h2⟩ | ⟨h1,h2⟩
    all_goals
      clear xw
      go_wp2_with fail
      refine(HF.out _).mono ?_
      rintro e w5 ⟨rfl,rfl⟩
      go_wp2_with fail
      rw [gI.out]
      exact⟨rfl,by rw [aW,hcast],ej.out⟩
   have gI:=qqh (show R=.ok (r,i+2) by rw [NB.out,if_neg xw]);rw [Cz]at xw;have hlt2:i+1<n:=(by rw [← hlen];exact bu (by omega));obtain⟨d1,d2,d3,d4⟩:=CD.out.step hlt2;rw [hcast]at d1 d3 d4;have tj:=qqh d3;have cZ:=qqh (ej.out.trans d4);clear d3 d4 NB hr;rcases (show(0≤r∧r<48)∨(57<r∧r<65)∨(90<r∧r<97)∨122<r by omega)with ⟨h1,h2⟩ | ⟨h1,h2⟩ | ⟨h1,h2⟩ | h1
   all_goals
     clear xw
     go_wp2_with fail
     go_ret
     rw [gI.out]
     exact⟨rfl,tj.out,cZ.out⟩
  have gI:=qqh (show R=.error (2,i) from fO.out.symm.trans (Kw hp wL));have adY:(pk L i != 92)=true:=(by simp [wL]);clear hp;go_enter Tryz.func116,Tryz.ntmps116;go_wp2_with fail;refine(gD.out _ _ HC.out).mono ?_;rintro e w1 ⟨rfl,m,rfl⟩;go_wp2_with fail;refine(JQ.out _).mono ?_;rintro e w2 ⟨rfl,hb⟩;have lT:=qqh ((HC.out.drewN m).below hb);have bt:=qqh ((aZ.drewN w C m).trans (aZ.below C hb));clear hb;have d1:=lT.out.blk.cell 1;go_wp2_with fail;refine(bT 2 i _).mono ?_;rintro e w3 ⟨rfl,rfl⟩;go_wp2_with fail;rw [gI.out];exact⟨rfl,rfl,bt.out⟩
theorem BQ (W:World) (v:Value):(Instr.typeAssert (.iface 132 v) 20 132 true).run Tryz.prog W=.ok (.tuple #[v,.bool true]) W:=by kernel_rfl
theorem Ct (f:Addr) (w:World) :
    CallsD Tryz.prog 38 #[.pointer (some f)] .returning w fun e u' w'=>e=.returned (.tuple #[])∧u'=.returning∧w'=w:=by
 refine callsD_of_wpS Tryz.func38 rfl fun c₀ cs hu=>?_;apply wpS_seq;apply wpS_region;simp [wpOpsS,go_sem,recoverD,hu,Tryz.ntmps38,Exit.thenS];refine wpS_of_wp ?_;go_wp2_with fail;cases c₀;simp_all [bodyPostS,results,Tryz.results38]
theorem xA (f:Nat) (x p a b:Int) (t:TypeId) (older:List PanicEntry) (w:World) (hf:aj w f t #[.int .i64 a,.int .i64 b]) :
    CallsD Tryz.prog 38 #[.pointer (some ⟨f,0,none⟩)] (.panicking ({ v:=.iface 132 (.agg #[.int .i64 x,.int .i64 p]),recovered:=false } :: older)) w fun e u' w'=>
      e=.returned (.tuple #[])∧u'=.panicking ({ v:=.iface 132 (.agg #[.int .i64 x,.int .i64 p]),recovered:=true } :: older)∧aj w' f t #[.int .i64 x,.int .i64 p]∧aZ w f w':=by
 have f0:=hf.frozen 0;have f1:=hf.frozen 1;have c0:=hf.cell 0;have c1:=hf.cell 1;refine callsD_of_wpS Tryz.func38 rfl fun c₀ cs hu=>?_;apply wpS_seq;apply wpS_region;simp [wpOpsS,go_sem,recoverD,hu,Tryz.ntmps38,Exit.thenS];refine wpS_of_wp ?_;have e (V:Value):(#[Value.pointer (some ⟨f,0,none⟩)]++(Array.replicate 14 undef).setIfInBounds 4 V) = #[.pointer (some ⟨f,0,none⟩),undef,undef,undef,undef,V,undef,undef,undef,undef,undef,undef,undef,undef,undef]:=rfl;rw [e];have hlt:=hf.lt;have hta:=fun(W:World) (v:Value)=>BQ W v;go_wp2_with fail;have hB:aj (((w.setCell ⟨f,0,none⟩ (.int .i64 x)).setCell ⟨f,1,none⟩ (.int .i64 p)).alloc (.cells #[.int .i64 x,.int .i64 p] 132)) f t #[.int .i64 x,.int .i64 p]:=((hf.put 0 _).put 1 _).alloc _;have hS:aZ w f (((w.setCell ⟨f,0,none⟩ (.int .i64 x)).setCell ⟨f,1,none⟩ (.int .i64 p)).alloc (.cells #[.int .i64 x,.int .i64 p] 132)):=((aZ.set w f 0 _).trans (aZ.set _ f 1 _)).trans (aZ.below f ((Below.refl _ _).alloc (Nat.le_refl _) _));simp [bodyPostS,results,Tryz.results38,hB,hS]
end Go.Proofs.YtkggjgeihhialaaGreatDoor
