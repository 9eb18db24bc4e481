/- Cursor + CurFail + CurSkip + CurPlain + CurHex + CurChar + Caught -/
import Derived.Test.YthgkedoildcbcaaGreatDoorZt32
import Derived.Test.YthgkedoildcbcaaGreatDoorZt21
import Derived.Test.YthgkedoildcbcaaGreatDoorZt8
import Derived.Defers
import Derived.Recover
set_option maxHeartbeats 3200000
set_option maxRecDepth 100000
namespace Go.Proofs.YthgkedoildcbcaaGreatDoor
open Go.RowKit
def nK (w:World) (g:Nat) (cs:Array Value):Prop:=∃ t,ai w g t cs
section
variable {w w' : World} {g : Nat} {cs : Array Value}
theorem nK.lt (h:nK w g cs):g<w.heap.size:=let ⟨_,hb⟩:=h;hb.lt
theorem nK.cell (h:nK w g cs) (i:Nat):w.cell? ⟨g,i,none⟩=cs[i]?:=let ⟨_,hb⟩:=h;hb.cell i
theorem nK.frozen (h:nK w g cs) (i:Nat):w.frozen? ⟨g,i,none⟩=false:=let ⟨_,hb⟩:=h;hb.frozen i
theorem nK.drewN (h:nK w g cs) (n:Nat):nK (w.drewN n) g cs:=h
theorem nK.put (h:nK w g cs) (i:Nat) (u:Value):nK (w.setCell ⟨g,i,none⟩ u) g (cs.setIfInBounds i u):=let ⟨t,hb⟩:=h;⟨t,hb.put i u⟩
theorem nK.below {B:Nat} (h:nK w g cs) (hb:Below B w w') (hg:g<B):nK w' g cs:=let ⟨t,hc⟩:=h;⟨t,hc.below hb hg⟩
theorem nK.same (h:nK w g cs) (he:w'.heap[g]? = w.heap[g]?):nK w' g cs:=let ⟨t,hc⟩:=h;⟨t,he.trans hc⟩
end
structure ax (w:World) (C:Nat) (A:Option Addr) (n c:Nat) (L:List Int) (i:Nat):Prop where
  blk:nK w C #[.slice A n c,.int .i64 i]
  row:bW w (fun b=>b≠C) 1 A n (runeCells L)
  size:n≤4611686018427387904
  le:i≤n
  cap:n≤c
theorem ax.len {w:World} {C:Nat} {A:Option Addr} {n c:Nat} {L:List Int} {i:Nat} (h:ax w C A n c L i):L.length=n:=by
 have:=h.row.1;rw [runeCells_length]at this;omega
theorem ax.drewN {w:World} {C:Nat} {A:Option Addr} {n c:Nat} {L:List Int} {i:Nat} (h:ax w C A n c L i) (k:Nat):ax (w.drewN k) C A n c L i :=
  ⟨h.blk.drewN k,h.row.keep (af.any (below_drewN (Below.refl _ _) k)),h.size,h.le,h.cap⟩
theorem EM (w:World) (C:Nat) (A:Option Addr) (n c:Nat) (L:List Int) (i k:Nat) (h:ax w C A n c L i) (hk:k≤1000) :
    Calls Tryz.prog 53 #[.pointer (some ⟨C,0,none⟩),.int .i64 k] w fun e w'=>e=.returned (.int .i32 (pk L (i+k)))∧∃ m,w'=w.drewN m:=by
 have c0:=h.blk.cell 0;have c1:=h.blk.cell 1;have hl:=h.len;have hs:=h.size;have hi:=h.le;have hw1:IntKind.i64.wrap ((i:Int)+k)=((i+k:Nat):Int):=(by rw [wrap_small _ (by omega) (by omega)];omega);by_cases hlt:i+k<n
 ·obtain⟨x,hx⟩:∃ x,L[i+k]? = some x:=⟨_,List.getElem?_eq_getElem (by omega)⟩;rw [Ia hx];obtain⟨b,o,rfl,_,_,hc⟩:=h.row.2 (by omega);have d0:w.cell? ⟨b,o+(i+k),none⟩=some (.int .i32 x):=hc _ _ (by simp [runeCells,hx]);have hg:decide ((n:Int)≤((i+k:Nat):Int))=false:=decide_eq_false (by omega);have hk0:(0:Int)≤((i+k:Nat):Int):=(by omega);have hk1:((i+k:Nat):Int)<(n:Int):=(by omega);clear hc h hx hl;go_enter Tryz.func53,Tryz.ntmps53;go_wp2_with fail;go_quiet (fail);go_wp2_with fail;go_quiet (fail);go_wp2_with fail;go_ret;exact⟨rfl,_,by rw [World.drewN_drewN]⟩
 rw [ri (by omega)];have hg:decide ((n:Int)≤((i+k:Nat):Int))=true:=decide_eq_true (by omega);clear h hl;go_enter Tryz.func53,Tryz.ntmps53;go_wp2_with fail;go_quiet (fail);go_wp2_with fail;go_ret;exact⟨rfl,_,rfl⟩
theorem nB (w:World) (C:Nat) (A:Option Addr) (n c:Nat) (L:List Int) (i:Nat) (h:ax w C A n c L i) :
    Calls Tryz.prog 34 #[.pointer (some ⟨C,0,none⟩)] w fun e w'=>e=.returned (.int .i32 (pk L i))∧∃ m,w'=w.drewN m:=by
 have HL:=qqh (show Calls Tryz.prog 53 #[.pointer (some ⟨C,0,none⟩),.int .i64 0] w fun e w'=>e=.returned (.int .i32 (pk L i))∧∃ m,w'=w.drewN m from EM w C A n c L i 0 h (Nat.zero_le _));clear h;go_enter Tryz.func34,Tryz.ntmps34;go_wp2_with fail;refine HL.out.mono ?_;rintro e w1 ⟨rfl,hm⟩;go_wp2_with fail;go_ret;exact⟨rfl,hm⟩
theorem ck (e p:Int) (w:World) :
    Calls Tryz.prog 32 #[.int .i64 e,.int .i64 p] w fun en w'=>en=.panicked [{ v:=.iface 124 (.agg #[.int .i64 e,.int .i64 p]),recovered:=false }]∧w'=w:=by
 go_enter Tryz.func32,Tryz.ntmps32;go_wp2_with fail;exact⟨rfl,rfl,rfl⟩
theorem tG (r:Int) (w:World) :
    Calls Tryz.prog 79 #[.int .i32 r] w fun e w'=>e=.returned (.bool (rA r))∧w'=w:=by
 go_enter Tryz.func79,Tryz.ntmps79;go_wp2;(all_goals go_ret);(all_goals refine⟨bB ?_,rfl⟩);(all_goals (rw [Bool.eq_iff_iff];simp [rA];try omega))
def aY (e p:Int):Ending:=.panicked [{ v:=.iface 124 (.agg #[.int .i64 e,.int .i64 p]),recovered:=false }]
theorem ax.move {w:World} {C:Nat} {A:Option Addr} {n c:Nat} {L:List Int} {i j:Nat} (h:ax w C A n c L i) (hj:j≤n):ax (w.setCell ⟨C,1,none⟩ (.int .i64 j)) C A n c L j :=
  ⟨h.blk.put 1 _,h.row.keep (af.setCell (p:=⟨C,1,none⟩) _ (fun _ hb=>hb) (fun _ h _=>h)),h.size,hj,h.cap⟩
theorem fK (w:World) (C:Nat) (A:Option Addr) (n c:Nat) (L:List Int) (i:Nat) (r:Int) (h:ax w C A n c L i) (hr:r ≠ -1) :
    Calls Tryz.prog 36 #[.pointer (some ⟨C,0,none⟩),.int .i32 r] w fun e w'=>
      match aU L i r with
      | .ok j=>e=.returned (.tuple #[])∧ax w' C A n c L j∧bP w C w'
      | .error (x,p)=>e=aY x p∧bP w C w':=by
 have iI:=qqh (nB w C A n c L i h);have HC:=qqh h;have hs:=h.size;have hi:=h.le;have hl:=h.len;have hw1:IntKind.i64.wrap ((i:Int)+1)=((i+1:Nat):Int):=(by rw [wrap_small _ (by omega) (by omega)];omega);clear h;unfold aU;by_cases he:pk L i=r
 ·have hlt:i<L.length:=bD (by omega);rw [if_pos he];have hg:decide (pk L i=r)=true:=decide_eq_true he;go_enter Tryz.func36,Tryz.ntmps36;go_wp2_with fail;refine iI.out.mono ?_;rintro e w1 ⟨rfl,m,rfl⟩;have kg:=qqh (HC.out.drewN m);have c0:=kg.out.blk.cell 0;have c1:=kg.out.blk.cell 1;have f1:=kg.out.blk.frozen 1;go_wp2_with fail;have hm:=kg.out.move (j:=i+1) (by omega);rw [show(((i+1:Nat)):Int)=(i:Int)+1 by omega]at hm;go_end0;exact⟨rfl,hm,(bP.drewN w C m).trans (bP.set _ C 1 _)⟩
 rw [if_neg he];go_enter Tryz.func36,Tryz.ntmps36;go_wp2_with fail;refine iI.out.mono ?_;rintro e w1 ⟨rfl,m,rfl⟩;have kg:=qqh (HC.out.drewN m);have c0:=kg.out.blk.cell 0;have c1:=kg.out.blk.cell 1;go_wp2_with fail;refine(ck 2 i _).mono ?_;rintro e w2 ⟨rfl,rfl⟩;go_wp2_with fail;exact⟨rfl,rfl,bP.drewN w C m⟩
theorem je (w:World) (C:Nat) (A:Option Addr) (n c:Nat) (L:List Int) (i:Nat) (h:ax w C A n c L i) :
    Calls Tryz.prog 52 #[.pointer (some ⟨C,0,none⟩)] w fun e w'=>e=.returned (.tuple #[])∧ax w' C A n c L (aN L i)∧bP w C w':=by
 have HC:=qqh h;have hs:=h.size;have hl:=h.len;clear h;go_enter Tryz.func52,Tryz.ntmps52;go_wp2_with fail;go_loopw [2] (fun _ wr=>∃ j,j≤n∧aN L i=aN L j∧ax wr C A n c L j∧bP w C wr) (fun _ wr=>n - (match wr.cell? ⟨C,1,none⟩with | some (.int _ j)=>j.toNat | _=>0));(case atStart=>exact⟨i,HC.out.le,rfl,HC.out,bP.refl _ _⟩);obtain⟨j,hj,AI,hc,hb⟩:=hrel;have HJ:=qqh hc;have HB:=qqh hb;have HS:=qqh AI;have iI:=qqh (nB wr C A n c L j hc);have hm0:=hc.blk.cell 1;have oc:=qqh hm0;have hw1:IntKind.i64.wrap ((j:Int)+1)=((j+1:Nat):Int):=(by rw [wrap_small _ (by omega) (by omega)];omega);clear hc hb AI hm0;go_wp2_with fail;refine iI.out.mono ?_;rintro e w1 ⟨rfl,m,rfl⟩;have kg:=qqh (HJ.out.drewN m);go_wp2_with fail;refine(tG _ _).mono ?_;rintro e w2 ⟨rfl,rfl⟩;by_cases eX:rA (pk L j)=true
 ·rw [eX];have hlt:j<L.length:=bD (fun e=>by rw [e]at eX;exact absurd eX (by decide));have c0:=kg.out.blk.cell 0;have c1:=kg.out.blk.cell 1;have f1:=kg.out.blk.frozen 1;have R5:=kg.out.move (j:=j+1) (by omega);rw [show(((j+1:Nat)):Int)=(j:Int)+1 by omega]at R5;have vU:=qqh R5;clear R5;go_wp2_with fail;refine⟨⟨j+1,by omega,HS.out.trans (ej hlt eX),vU.out,(HB.out.trans (bP.drewN wr C m)).trans (bP.set _ C 1 _)⟩,?_⟩;have e1:((wr.drewN m).setCell ⟨C,1,none⟩ (.int .i64 ((j:Int)+1))).cell? ⟨C,1,none⟩=some (.int .i64 ((j+1:Nat):Int)):=vU.out.blk.cell 1;have e2:wr.cell? ⟨C,1,none⟩=some (.int .i64 (j:Int)):=oc.out;rw [e1,e2];simp only [Int.toNat_natCast];omega
 rw [Bool.not_eq_true]at eX;rw [eX];go_wp2_with fail;go_end0;refine⟨rfl,?_,HB.out.trans (bP.drewN wr C m)⟩;rw [HS.out,show aN L j=j from cX (fun _=>eX)];exact kg.out
def E9 (r:Int):Prop:=r = -1∨Utf8.valid r=true
def sg:ByteArray:=⟨#[91,93,38,45,94,92,58,36,40,41,123,125,60,62,124,59,35,39,34,61,44]⟩
theorem CM (r:Int):(sg.data.toList.any fun b=>decide ((b.toNat:Int)=r))=sL.contains r:=by
 rw [Bool.eq_iff_iff];simp [sg,sL];omega
theorem pT (r:Int) (w:World) (hr:E9 r) :
    Calls Tryz.prog 106 #[.int .i32 r] w fun e w'=>e=.returned (.bool (dr r))∧Below w.heap.size w w':=by
 have HS:=qqh (show Calls Tryz.prog 131 #[.string sg,.int .i32 r] w fun e w'=>e=.returned (.bool (sL.contains r))∧Below w.heap.size w w' by
  have:=qu sg r w (by decide) (by decide) (by decide) hr;rw [CM]at this;exact this)
 clear hr;unfold dr;by_cases h0:0≤r
 ·have hd:decide (0≤r)=true:=decide_eq_true h0;rw [hd];cases hb:rA r
  ·go_enter Tryz.func106,Tryz.ntmps106;go_wp2_with fail;refine(tG _ _).mono ?_;rintro e w1 ⟨rfl,hw⟩;rw [hw,hb];go_wp2_with fail;refine HS.out.mono ?_;rintro e w2 ⟨rfl,bu⟩;go_wp2_with fail;go_ret;exact⟨by simp,bu⟩
  go_enter Tryz.func106,Tryz.ntmps106;go_wp2_with fail;refine(tG _ _).mono ?_;rintro e w1 ⟨rfl,hw⟩;rw [hw,hb];go_wp2_with fail;go_ret;exact⟨by simp,Below.refl _ _⟩
 have hd:decide (0≤r)=false:=decide_eq_false h0;rw [hd];go_enter Tryz.func106,Tryz.ntmps106;go_wp2_with fail;go_ret;exact⟨by simp,Below.refl _ _⟩
def gl (L:List Int):Prop:=∀ x∈L,Utf8.valid x=true
theorem gl.ok {L:List Int} (h:gl L):cH L:=fun x hx=>by
 have:=h x hx;simp [Utf8.valid]at this;omega
theorem gl.pk {L:List Int} (h:gl L) (i:Nat):E9 (pk L i):=by
 unfold Go.Proofs.YthgkedoildcbcaaGreatDoor.pk;cases hi:L[i]? with
 | none=>exact .inl rfl
 | some x=>exact .inr (h x (List.mem_of_getElem? hi))
theorem ax.at {w:World} {C:Nat} {A:Option Addr} {n c:Nat} {L:List Int} {i:Nat} (h:ax w C A n c L i) (h0:0<n) :
    ∃ b off,A=some ⟨b,off,none⟩∧b<w.heap.size∧∀ j x,L[j]? = some x→w.cell? ⟨b,off+j,none⟩=some (.int .i32 x):=by
 obtain⟨b,off,e,_,hb,hc⟩:=h.row.2 h0;exact⟨b,off,e,hb,fun j x hx=>hc j _ (by rw [ey,hx];rfl)⟩
theorem xA {w:World} {C:Nat} {b off n c:Nat} {L:List Int} {k:Nat} (h:ax w C (some ⟨b,off,none⟩) n c L k) {i j:Nat} (hij:i≤j) (hj:j≤n) :
    (convert 26 9 (.slice (if c=i then some ⟨b,off,none⟩else some ⟨b,off+i,none⟩) (j - i) (c - i))).run Tryz.prog w=.ok (.string (runesBytes (aL L i j))) w:=by
 have hlen:=h.len;have hcap:=h.cap;by_cases hn:0<n
 ·obtain⟨b',off',e,_,hc⟩:=h.at hn;cases e;have key:∀ (o:Nat),o=off+i∨j - i=0→(convert 26 9 (.slice (some ⟨b,o,none⟩) (j - i) (c - i))).run Tryz.prog w=.ok (.string (runesBytes (aL L i j))) w:=by
   intro o ho;rcases ho with rfl | ho
   ·have:=run_convert_runes (P:=Tryz.prog) w 26 9 21 ⟨b,off+i,none⟩ (j - i) (c - i) (aL L i j) (by unfold aL;rw [List.length_take,List.length_drop];omega) Tryz.underlying26 Tryz.underlying21 Tryz.underlying9 (fun q hq=>by
     rw [j9,Nat.add_assoc];unfold aL at hq ⊢;rw [List.length_take,List.length_drop]at hq;refine hc (i+q) _ ?_;rw [List.getD_eq_getElem?_getD,List.getElem?_take_of_lt (by omega),List.getElem?_drop];rw [List.getElem?_eq_getElem (by omega)];rfl)
    rw [show(aL L i j).take (j - i)=aL L i j from List.take_of_length_le (by unfold aL;rw [List.length_take];omega)]at this;exact this
   have:=run_convert_runes (P:=Tryz.prog) w 26 9 21 ⟨b,o,none⟩ (j - i) (c - i) [] (by rw [ho];simp) Tryz.underlying26 Tryz.underlying21 Tryz.underlying9 (fun q hq=>by simp at hq);rw [show([]:List Int).take (j - i)=aL L i j by unfold aL;rw [ho];simp]at this;exact this
  split;exact key _ (.inr (by omega));exact key _ (.inl rfl)
 have:=run_convert_runes (P:=Tryz.prog) w 26 9 21 (if c=i then ⟨b,off,none⟩else ⟨b,off+i,none⟩) (j - i) (c - i) [] (by rw [show j - i=0 by omega];simp) Tryz.underlying26 Tryz.underlying21 Tryz.underlying9 (fun q hq=>by simp at hq);have e:(if c=i then some (⟨b,off,none⟩:Addr)else some ⟨b,off+i,none⟩)=some (if c=i then (⟨b,off,none⟩:Addr)else ⟨b,off+i,none⟩):=(by split <;> rfl);rw [show([]:List Int).take (j - i)=aL L i j by unfold aL;rw [show j - i=0 by omega];simp]at this;rw [e];exact this
def C5 (w:World) (C:Nat) (A:Option Addr) (n c:Nat) (L:List Int) (r:kS Int) (e:Ending) (w':World):Prop :=
  match r with
  | .ok (x,j)=>e=.returned (.int .i32 x)∧ax w' C A n c L j∧bP w C w'
  | .error (x,p)=>e=aY x p∧bP w C w'
def O7:ByteArray:=⟨#[48,49,50,51,52,53,54,55,56,57,97,98,99,100,101,102,65,66,67,68,69,70]⟩
theorem O6 (r:Int):(O7.data.toList.any fun b=>decide ((b.toNat:Int)=r))=fe r:=by
 rw [Bool.eq_iff_iff];simp [O7,fe];omega
theorem Cs (r:Int) (w:World) (hr:E9 r) :
    Calls Tryz.prog 131 #[.string O7,.int .i32 r] w fun e w'=>e=.returned (.bool (fe r))∧Below w.heap.size w w':=by
 have:=qu O7 r w (by decide) (by decide) (by decide) hr;rw [O6]at this;exact this
theorem ax.below {w w':World} {C:Nat} {A:Option Addr} {n c:Nat} {L:List Int} {i:Nat} (h:ax w C A n c L i) (hb:Below w.heap.size w w'):ax w' C A n c L i :=
  ⟨h.blk.below hb h.blk.lt,h.row.keep (af.any hb),h.size,h.le,h.cap⟩
theorem ON {L:List Int} {i:Nat} {e:Int × Nat} (h:aU L (i+1) 123=.error e):lN L i=.error e:=by unfold lN;rw [h]
theorem Hz {L:List Int} {i a r:Nat} (h:aU L (i+1) 123=.ok a) (hr:r=aB fe L a) (hb:r - a<1∨6<r - a):lN L i=.error (2,a):=by
 subst hr;unfold lN;rw [h];simp only;rw [if_pos hb]
theorem P0 {L:List Int} {i a r:Nat} {e:Int × Nat} (h:aU L (i+1) 123=.ok a) (hr:r=aB fe L a) (hb:¬(r - a<1∨6<r - a)) (h2:aU L r 125=.error e):lN L i=.error e:=by
 subst hr;unfold lN;rw [h];simp only;rw [if_neg hb,h2]
theorem OY {L:List Int} {i a r k:Nat} (h:aU L (i+1) 123=.ok a) (hr:r=aB fe L a) (hb:¬(r - a<1∨6<r - a)) (h2:aU L r 125=.ok k) (h3:1114111<eD (aL L a r)):lN L i=.error (3,i):=by
 subst hr;unfold lN;rw [h];simp only;rw [if_neg hb,h2];simp only;rw [if_pos h3]
theorem SI {L:List Int} {i a r k:Nat} (h:aU L (i+1) 123=.ok a) (hr:r=aB fe L a) (hb:¬(r - a<1∨6<r - a)) (h2:aU L r 125=.ok k) (h3:¬ 1114111<eD (aL L a r)):lN L i=.ok (eD (aL L a r),k):=by
 subst hr;unfold lN;rw [h];simp only;rw [if_neg hb,h2];simp only;rw [if_neg h3]
def VW (w:World) (C:Nat) (A:Option Addr) (n c:Nat) (L:List Int) (a r:Nat) (wr:World):Prop :=
  ∃ j,a≤j∧j≤n∧r=aB fe L j∧ax wr C A n c L j∧bP w C wr
theorem O5 (w:World) (C:Nat) (A:Option Addr) (n c:Nat) (L:List Int) (i:Nat) (h:ax w C A n c L i) (hL:gl L) (hi:i<n) :
    Calls Tryz.prog 133 #[.pointer (some ⟨C,0,none⟩)] w (C5 w C A n c L (lN L i)):=by
 have hs:=h.size;have hlen:=h.len;obtain⟨b,off,rfl,_,_⟩:=h.at (by omega);have HL:=qqh hL;have c0:=h.blk.cell 0;have c1:=h.blk.cell 1;have f1:=h.blk.frozen 1;have hw1:IntKind.i64.wrap ((i:Int)+1)=((i+1:Nat):Int):=(by rw [wrap_small _ (by omega) (by omega)];omega);have hm:=h.move (j:=i+1) (by omega);have SG:=bP.set w C 1 (.int .i64 ((i+1:Nat):Int));rw [show(((i+1:Nat)):Int)=(i:Int)+1 by omega]at hm SG;have HM:=qqh hm;have b7:=qqh SG;clear hL hm h SG;obtain⟨R,hR⟩:∃ R,lN L i=R:=⟨_,rfl⟩;rw [hR];have fZ:=qqh hR;clear hR;cases hn:aU L (i+1) 123 with
 | error e0=>
  obtain⟨x,p⟩:=e0;have HN:=qqh (fK _ C _ n c L (i+1) 123 HM.out (by decide));rw [hn]at HN;go_enter Tryz.func133,Tryz.ntmps133;go_wp2_with fail;refine HN.out.mono ?_;rintro e w1 ⟨he,hb⟩;unfold aY at he;subst he;have BE:=qqh (b7.out.trans hb);clear hb HN;go_wp2_with fail;rw [show R=_ from fZ.out.symm.trans (ON hn)];exact⟨rfl,rfl,BE.out⟩
 | ok a=>
  have Sn:=qqh hn;obtain⟨rfl,hpk⟩:=gC hn;have HN:=qqh (fK _ C _ n c L (i+1) 123 HM.out (by decide));rw [hn]at HN;have hi1:i+1<n:=(by rw [← hlen];exact bD (by rw [hpk];decide));clear hn;generalize ha:i+1+1=a at *;have qO:=qqh (yI fe L a);generalize hr:aB fe L a=r at *;have ko:=qqh hr.symm;clear hr;go_enter Tryz.func133,Tryz.ntmps133;go_wp2_with fail;refine HN.out.mono ?_;rintro e w1 ⟨rfl,hc,hb⟩;have HC:=qqh hc;have bG:=qqh (b7.out.trans hb);have g0:=hc.blk.cell 0;have g1:=hc.blk.cell 1;clear hb hc HN b7 HM;go_wp2_with fail;go_loopw [25] (fun _ wr=>VW w C (some ⟨b,off,none⟩) n c L a r wr) (fun _ wr=>n - (match wr.cell? ⟨C,1,none⟩with | some (.int _ j)=>j.toNat | _=>0));(case atStart=>exact⟨a,Nat.le_refl _,HC.out.le,ko.out,HC.out,bG.out⟩);obtain⟨j,haj,hj,hrun,uZ,Bp⟩:=hrel;have HJ:=qqh uZ;have HB:=qqh Bp;have HR:=qqh hrun;have iI:=qqh (fun(W:World) (h:ax W C (some ⟨b,off,none⟩) n c L j)=>nB W C (some ⟨b,off,none⟩) n c L j h);have oc:=qqh (uZ.blk.cell 1);have hok:=HL.out.pk j;have KC:=qqh (fun(W:World)=>Cs (pk L j) W hok);clear uZ Bp hrun;by_cases EZ:fe (pk L j)=true
  ·rw [EZ]at KC;have hlt:j<L.length:=bD (fun e=>by rw [e]at EZ;exact absurd EZ (by decide));have h0:0≤pk L j:=(qa (l:=[pk L j]) (by simpa using EZ) _ (by simp)).1;have hg:decide (0≤pk L j)=true:=decide_eq_true h0;have E5:IntKind.i64.wrap ((j:Int)+1)=((j+1:Nat):Int):=(by rw [wrap_small _ (by omega) (by omega)];omega);go_wp2_with fail;refine(iI.out _ HJ.out).mono ?_;rintro e w2 ⟨rfl,m,rfl⟩;go_wp2_with fail;refine(KC.out _).mono ?_;rintro e w3 ⟨rfl,bN⟩;have mM:=qqh ((HJ.out.drewN m).below bN);have bL:=qqh ((HB.out.trans (bP.drewN wr C m)).trans (bP.below C bN));clear bN;go_wp2_with fail;refine(iI.out _ mM.out).mono ?_;rintro e w4 ⟨rfl,m2,rfl⟩;have kg:=qqh (mM.out.drewN m2);have d0:=kg.out.blk.cell 0;have d1:=kg.out.blk.cell 1;have f2:=kg.out.blk.frozen 1;have R5:=kg.out.move (j:=j+1) (by omega);rw [show(((j+1:Nat)):Int)=(j:Int)+1 by omega]at R5;have vU:=qqh R5;clear R5;go_wp2_with fail;refine⟨⟨j+1,by omega,by omega,HR.out.trans (ej hlt EZ),vU.out,(bL.out.trans (bP.drewN w3 C m2)).trans (bP.set _ C 1 _)⟩,?_⟩;have e1:((w3.drewN m2).setCell ⟨C,1,none⟩ (.int .i64 ((j:Int)+1))).cell? ⟨C,1,none⟩=some (.int .i64 ((j+1:Nat):Int)):=vU.out.blk.cell 1;have e2:wr.cell? ⟨C,1,none⟩=some (.int .i64 (j:Int)):=oc.out;rw [e1,e2];simp only [Int.toNat_natCast];omega
  rw [Bool.not_eq_true]at EZ;rw [EZ]at KC;obtain rfl:r=j:=HR.out.trans (cX (fun _=>EZ));clear HR;go_wp2_with fail;refine(iI.out _ HJ.out).mono ?_;rintro e w2 ⟨rfl,m,rfl⟩;go_wp2_with fail;refine(KC.out _).mono ?_;rintro e w3 ⟨rfl,bN⟩;have mM:=qqh ((HJ.out.drewN m).below bN);have bL:=qqh ((HB.out.trans (bP.drewN wr C m)).trans (bP.below C bN));clear bN;have d0:=mM.out.blk.cell 0;have d1:=mM.out.blk.cell 1;have td:=fun q=>xA (mM.out.drewN q) haj hj;have hk1:(a:Int)≤(r:Int):=(by omega);have hk2:(r:Int)≤(c:Int):=(by have:=mM.out.cap;omega);have Qr:(0:Int)≤(a:Int):=(by omega);have hds:∀ d∈aL L a r,fe d=true:=(by rw [qO.out];exact qJ _);have HDS:=qqh hds;have V1:(aL L a r).length=r - a:=(by unfold aL;rw [List.length_take,List.length_drop];omega);have hsz:(runesBytes (aL L a r)).size=r - a:=(by rw [vH (qa hds),V1]);have vu:=qqh (dJ (qa hds));generalize runesBytes (aL L a r)=s at *;clear hds;go_wp2_with fail;go_quiet (fail);have HJQ:=qqh (mM.out.drewN nq);have EV:=qqh (bL.out.trans (bP.drewN w3 C nq));generalize w3.drewN nq=wq at HJQ EV ⊢;generalize (if c=a then some ({ block:=b,off:=off }:Addr)else some { block:=b,off:=off+a })=Z;clear td d0 d1 mM bL HJ HB oc hk1 hk2 Qr;rcases (show r - a<1∨6<r - a∨(1≤r - a∧r - a≤6) by omega)with zA | zA | ⟨OI,Oi⟩
  ·have hz:s.size=0:=(by omega);have HF:=qqh (fun(W:World)=>ck 2 a W);go_wp2_with fail;refine(HF.out _).mono ?_;rintro e w5 ⟨rfl,rfl⟩;go_wp2_with fail;rw [show R=_ from fZ.out.symm.trans (Hz Sn.out ko.out (.inl zA))];exact⟨rfl,rfl,EV.out⟩
  ·have HF:=qqh (fun(W:World)=>ck 2 a W);have hq1:decide ((s.size:Int)<1)=false:=decide_eq_false (by omega);have Hj:decide ((6:Int)<(s.size:Int))=true:=decide_eq_true (by omega);go_wp2_with fail;refine(HF.out _).mono ?_;rintro e w5 ⟨rfl,rfl⟩;go_wp2_with fail;rw [show R=_ from fZ.out.symm.trans (Hz Sn.out ko.out (.inr zA))];exact⟨rfl,rfl,EV.out⟩
  have hq1:decide ((s.size:Int)<1)=false:=decide_eq_false (by omega);have Hj:decide ((6:Int)<(s.size:Int))=false:=decide_eq_false (by omega);have HN:=qqh (fK wq C _ n c L r 125 HJQ.out (by decide));have Iy:=qqh (show ¬(r - a<1∨6<r - a) by omega);cases hn2:aU L r 125 with
  | error e0=>
   obtain⟨x,p⟩:=e0;rw [hn2]at HN;go_wp2_with fail;refine HN.out.mono ?_;rintro e w5 ⟨he,hb⟩;unfold aY at he;subst he;have BE:=qqh (EV.out.trans hb);clear hb HN;go_wp2_with fail;rw [show R=_ from fZ.out.symm.trans (P0 Sn.out ko.out Iy.out hn2)];exact⟨rfl,rfl,BE.out⟩
  | ok k=>
   rw [hn2]at HN;have KF:=qqh hn2;obtain⟨x0,x1⟩:=nH (l:=aL L a r) HDS.out (by omega);have HPI:=qqh (fun(W:World)=>Kg s (aL L a r) W vu.out HDS.out (by omega) (by omega));generalize hX:eD (aL L a r)=X at *;have G8:=qqh hX;clear hX hn2;go_wp2_with fail;refine HN.out.mono ?_;rintro e w5 ⟨rfl,mK,ez⟩;have vQ:=qqh mK;have dQ:=qqh (EV.out.trans ez);clear mK ez;go_wp2_with fail;refine(HPI.out _).mono ?_;rintro e w6 ⟨rfl,fu⟩;have J1:=qqh (vQ.out.below fu);have gx:=qqh (dQ.out.trans (bP.below C fu));clear fu;by_cases hbig:1114111<X
   ·have HF:=qqh (fun(W:World)=>ck 3 i W);go_wp2_with fail;refine(HF.out _).mono ?_;rintro e w7 ⟨rfl,rfl⟩;go_wp2_with fail;rw [show R=_ from fZ.out.symm.trans (OY Sn.out ko.out Iy.out KF.out (by rw [G8.out];exact hbig))];exact⟨rfl,rfl,gx.out⟩
   have hwx:IntKind.i32.wrap X=X:=IntWalk.i32_in _ (by omega);go_wp2_with fail;go_ret;rw [show R=_ from fZ.out.symm.trans (SI Sn.out ko.out Iy.out KF.out (by rw [G8.out];omega)),G8.out];exact⟨rfl,J1.out,gx.out⟩
theorem Dd {L:List Int} {i:Nat} (h:dr (pk L i)=true):dh L i=.ok (pk L i,i+1):=by unfold dh;rw [if_pos h]
theorem K2 {L:List Int} {i:Nat} (h:dr (pk L i)=false) (h2:pk L i≠92):dh L i=.error (2,i):=by unfold dh;rw [if_neg (by rw [h];decide),if_pos h2]
theorem JB {L:List Int} {i:Nat} (h2:pk L i=92):dh L i=if pk L (i+1)=110 then .ok (10,i+2)
  else if pk L (i+1)=116 then .ok (9,i+2)
  else if pk L (i+1)=117 then lN L (i+1)
  else if pk L (i+1)<0∨Gw (pk L (i+1))=true then .error (2,i+1)
  else .ok (pk L (i+1),i+2):=by
 unfold dh;rw [if_neg (by rw [h2];decide),if_neg (by rw [h2];decide)]
theorem Dx (r:Int):Gw r=true↔(48≤r∧r≤57)∨(97≤r∧r≤122)∨(65≤r∧r≤90):=by
 unfold Gw;simp only [Bool.or_eq_true,Bool.and_eq_true,decide_eq_true_eq]
theorem ax.step {w:World} {C:Nat} {A:Option Addr} {n c:Nat} {L:List Int} {i:Nat} (h:ax w C A n c L i) (hi:i<n) :
    w.cell? ⟨C,1,none⟩=some (.int .i64 i)∧w.frozen? ⟨C,1,none⟩=false∧ax (w.setCell ⟨C,1,none⟩ (.int .i64 ((i:Int)+1))) C A n c L (i+1)∧bP w C (w.setCell ⟨C,1,none⟩ (.int .i64 ((i:Int)+1))):=by
 have hm:=h.move (j:=i+1) hi;rw [show(((i+1:Nat)):Int)=(i:Int)+1 by omega]at hm;exact⟨h.blk.cell 1,h.blk.frozen 1,hm,bP.set w C 1 _⟩
theorem De (w:World) (C:Nat) (A:Option Addr) (n c:Nat) (L:List Int) (i:Nat) (h:ax w C A n c L i) (hL:gl L) :
    Calls Tryz.prog 111 #[.pointer (some ⟨C,0,none⟩)] w (C5 w C A n c L (dh L i)):=by
 have hs:=h.size;have hlen:=h.len;have HL:=qqh hL;have HC:=qqh h;have iI:=qqh (fun(W:World) (k:Nat) (h:ax W C A n c L k)=>nB W C A n c L k h);have qs:=qqh (fun(W:World) (k:Nat)=>pT (pk L k) W (hL.pk k));have hw1:IntKind.i64.wrap ((i:Int)+1)=(i:Int)+1:=wrap_small _ (by have:=h.le;omega) (by have:=h.le;omega);have hle:=h.le;clear h hL;obtain⟨R,hR⟩:∃ R,dh L i=R:=⟨_,rfl⟩;rw [hR];have fZ:=qqh hR;clear hR;cases hp:dr (pk L i)with
 | true=>
  have hlt:i<L.length:=bD (fun e=>by rw [e]at hp;exact absurd hp (by decide));have iZ:=qqh (show R=.ok (pk L i,i+1) from fZ.out.symm.trans (Dd hp));have Nd:=qqh (fun(W:World)=>show Calls Tryz.prog 106 #[.int .i32 (pk L i)] W fun e w'=>e=.returned (.bool true)∧Below W.heap.size W w' by have:=qs.out W i;rwa [hp]at this);clear hp;go_enter Tryz.func111,Tryz.ntmps111;go_wp2_with fail;refine(iI.out _ _ HC.out).mono ?_;rintro e w1 ⟨rfl,m,rfl⟩;go_wp2_with fail;refine(Nd.out _).mono ?_;rintro e w2 ⟨rfl,hb⟩;have sC:=qqh ((HC.out.drewN m).below hb);have bG:=qqh ((bP.drewN w C m).trans (bP.below C hb));clear hb;obtain⟨d1,d2,d3,d4⟩:=sC.out.step (by omega);have rH:=qqh d3;have bL:=qqh (bG.out.trans d4);clear d3 d4;go_wp2_with fail;go_ret;rw [iZ.out];exact⟨rfl,rH.out,bL.out⟩
 | false=>
  have Nd:=qqh (fun(W:World)=>show Calls Tryz.prog 106 #[.int .i32 (pk L i)] W fun e w'=>e=.returned (.bool false)∧Below W.heap.size W w' by have:=qs.out W i;rwa [hp]at this);by_cases yT:pk L i=92
  ·have hlt:i<L.length:=bD (by omega);have CA:=qqh (fZ.out.symm.trans (JB yT));have uc:=qqh (fun(W:World) (h:ax W C A n c L i)=>show Calls Tryz.prog 34 #[.pointer (some ⟨C,0,none⟩)] W fun e w'=>e=.returned (.int .i32 92)∧∃ m,w'=W.drewN m by have:=iI.out W i h;rwa [yT]at this);rw [yT]at Nd;clear hp yT;go_enter Tryz.func111,Tryz.ntmps111;go_wp2_with fail;refine(uc.out _ HC.out).mono ?_;rintro e w1 ⟨rfl,m,rfl⟩;go_wp2_with fail;refine(Nd.out _).mono ?_;rintro e w2 ⟨rfl,hb⟩;have sC:=qqh ((HC.out.drewN m).below hb);have bG:=qqh ((bP.drewN w C m).trans (bP.below C hb));clear hb;obtain⟨d1,d2,d3,d4⟩:=sC.out.step (by omega);have rH:=qqh d3;have bL:=qqh (bG.out.trans d4);clear d3 d4;go_wp2_with fail;refine(iI.out _ _ rH.out).mono ?_;rintro e w3 ⟨rfl,m3,zl⟩;have Ef:=qqh (rH.out.drewN m3);have ek:=qqh (bL.out.trans (bP.drewN _ C m3));rw [← zl]at Ef ek;clear zl d1 d2;have E5:IntKind.i64.wrap ((i:Int)+1+1)=(i:Int)+1+1:=wrap_small _ (by omega) (by omega);have abl:=wP HL.out.ok (i+1);have KC:=qqh (fun(W:World) (hc:ax W C A n c L (i+1)) (hlt:i+1<n)=>O5 W C A n c L (i+1) hc HL.out hlt);have hcast:((i+1:Nat):Int)=(i:Int)+1:=(by omega);generalize hr:pk L (i+1)=r at *;by_cases h1:r=110
   ·subst h1;have hlt2:i+1<n:=(by rw [← hlen];exact bD (by omega));have iZ:=qqh (show R=.ok (10,i+2) from CA.out);obtain⟨d1,d2,d3,d4⟩:=Ef.out.step hlt2;rw [hcast]at d1 d3 d4;have vQ:=qqh d3;have dQ:=qqh (ek.out.trans d4);clear d3 d4 CA hr;go_wp2_with fail;go_ret;rw [iZ.out];exact⟨rfl,vQ.out,dQ.out⟩
   by_cases h2:r=116
   ·subst h2;have hlt2:i+1<n:=(by rw [← hlen];exact bD (by omega));have iZ:=qqh (show R=.ok (9,i+2) from CA.out);obtain⟨d1,d2,d3,d4⟩:=Ef.out.step hlt2;rw [hcast]at d1 d3 d4;have vQ:=qqh d3;have dQ:=qqh (ek.out.trans d4);clear d3 d4 CA hr;go_wp2_with fail;go_ret;rw [iZ.out];exact⟨rfl,vQ.out,dQ.out⟩
   by_cases h3:r=117
   ·subst h3;have hlt2:i+1<n:=(by rw [← hlen];exact bD (by omega));have iZ:=qqh (show R=lN L (i+1) from CA.out);have HX:=qqh (KC.out _ Ef.out hlt2);clear CA hr KC;cases hx:lN L (i+1)with
    | error e0=>
     obtain⟨x,p⟩:=e0;rw [hx]at HX;have iX:=qqh (iZ.out.trans hx);clear hx;go_wp2_with fail;refine HX.out.mono ?_;rintro e w5 ⟨he,hb⟩;unfold aY at he;subst he;have dQ:=qqh (ek.out.trans hb);clear hb;go_wp2_with fail;rw [iX.out];exact⟨rfl,rfl,dQ.out⟩
    | ok q=>
     obtain⟨x,p⟩:=q;rw [hx]at HX;have iX:=qqh (iZ.out.trans hx);clear hx;go_wp2_with fail;refine HX.out.mono ?_;rintro e w5 ⟨rfl,hc,hb⟩;have vQ:=qqh hc;have dQ:=qqh (ek.out.trans hb);clear hb hc;go_wp2_with fail;go_ret;rw [iX.out];exact⟨rfl,vQ.out,dQ.out⟩
   have PX:=qqh (show R=if r<0∨Gw r=true then .error (2,i+1)else .ok (r,i+2) by rw [CA.out,if_neg h1,if_neg h2,if_neg h3]);have q1:(r == 110)=false:=(by simp;exact h1);have q2:(r == 116)=false:=(by simp;exact h2);have q3:(r == 117)=false:=(by simp;exact h3);clear CA h1 h2 h3 KC;by_cases zA:r<0∨Gw r=true
   ·have iZ:=qqh (show R=.error (2,i+1) by rw [PX.out,if_pos zA]);have d1:=Ef.out.blk.cell 1;have hcell:w3.cell? ⟨C,1,none⟩=some (.int .i64 ((i:Int)+1)):=(by rw [← hcast];exact d1);have HF:=qqh (fun(W:World)=>ck 2 ((i:Int)+1) W);rw [Dx]at zA;clear PX d1;rcases (show r<0∨(48≤r∧r≤57)∨(97≤r∧r≤122)∨(65≤r∧r≤90) by omega)with h1 | ⟨h1,h2⟩ | ⟨h1,h2⟩ | ⟨h1,h2⟩
    all_goals
      clear zA
      go_wp2_with fail
      refine(HF.out _).mono ?_
      rintro e w5 ⟨rfl,rfl⟩
      go_wp2_with fail
      rw [iZ.out]
      exact⟨rfl,by rw [aY,hcast],ek.out⟩
   have iZ:=qqh (show R=.ok (r,i+2) by rw [PX.out,if_neg zA]);rw [Dx]at zA;have hlt2:i+1<n:=(by rw [← hlen];exact bD (by omega));obtain⟨d1,d2,d3,d4⟩:=Ef.out.step hlt2;rw [hcast]at d1 d3 d4;have vQ:=qqh d3;have dQ:=qqh (ek.out.trans d4);clear d3 d4 PX hr;rcases (show(0≤r∧r<48)∨(57<r∧r<65)∨(90<r∧r<97)∨122<r by omega)with ⟨h1,h2⟩ | ⟨h1,h2⟩ | ⟨h1,h2⟩ | h1
   all_goals
     clear zA
     go_wp2_with fail
     go_ret
     rw [iZ.out]
     exact⟨rfl,vQ.out,dQ.out⟩
  have iZ:=qqh (show R=.error (2,i) from fZ.out.symm.trans (K2 hp yT));have afc:(pk L i != 92)=true:=(by simp [yT]);clear hp;go_enter Tryz.func111,Tryz.ntmps111;go_wp2_with fail;refine(iI.out _ _ HC.out).mono ?_;rintro e w1 ⟨rfl,m,rfl⟩;go_wp2_with fail;refine(Nd.out _).mono ?_;rintro e w2 ⟨rfl,hb⟩;have sC:=qqh ((HC.out.drewN m).below hb);have bG:=qqh ((bP.drewN w C m).trans (bP.below C hb));clear hb;have d1:=sC.out.blk.cell 1;go_wp2_with fail;refine(ck 2 i _).mono ?_;rintro e w3 ⟨rfl,rfl⟩;go_wp2_with fail;rw [iZ.out];exact⟨rfl,rfl,bG.out⟩
theorem CD (W:World) (v:Value):(Instr.typeAssert (.iface 124 v) 20 124 true).run Tryz.prog W=.ok (.tuple #[v,.bool true]) W:=by kernel_rfl
theorem C1 (f:Addr) (w:World) :
    CallsD Tryz.prog 31 #[.pointer (some f)] .returning w fun e u' w'=>e=.returned (.tuple #[])∧u'=.returning∧w'=w:=by
 refine callsD_of_wpS Tryz.func31 rfl fun c₀ cs hu=>?_;apply wpS_seq;apply wpS_region;simp [wpOpsS,go_sem,recoverD,hu,Tryz.ntmps31,Exit.thenS];refine wpS_of_wp ?_;go_wp2_with fail;cases c₀;simp_all [bodyPostS,results,Tryz.results31]
theorem zN (f:Nat) (x p a b:Int) (t:TypeId) (older:List PanicEntry) (w:World) (hf:ai w f t #[.int .i64 a,.int .i64 b]) :
    CallsD Tryz.prog 31 #[.pointer (some ⟨f,0,none⟩)] (.panicking ({ v:=.iface 124 (.agg #[.int .i64 x,.int .i64 p]),recovered:=false } :: older)) w fun e u' w'=>
      e=.returned (.tuple #[])∧u'=.panicking ({ v:=.iface 124 (.agg #[.int .i64 x,.int .i64 p]),recovered:=true } :: older)∧ai w' f t #[.int .i64 x,.int .i64 p]∧bP w f w':=by
 have f0:=hf.frozen 0;have f1:=hf.frozen 1;have c0:=hf.cell 0;have c1:=hf.cell 1;refine callsD_of_wpS Tryz.func31 rfl fun c₀ cs hu=>?_;apply wpS_seq;apply wpS_region;simp [wpOpsS,go_sem,recoverD,hu,Tryz.ntmps31,Exit.thenS];refine wpS_of_wp ?_;have e (V:Value):(#[Value.pointer (some ⟨f,0,none⟩)]++(Array.replicate 14 undef).setIfInBounds 4 V) = #[.pointer (some ⟨f,0,none⟩),undef,undef,undef,undef,V,undef,undef,undef,undef,undef,undef,undef,undef,undef]:=rfl;rw [e];have hlt:=hf.lt;have hta:=fun(W:World) (v:Value)=>CD W v;go_wp2_with fail;have hB:ai (((w.setCell ⟨f,0,none⟩ (.int .i64 x)).setCell ⟨f,1,none⟩ (.int .i64 p)).alloc (.cells #[.int .i64 x,.int .i64 p] 124)) f t #[.int .i64 x,.int .i64 p]:=((hf.put 0 _).put 1 _).alloc _;have hS:bP w f (((w.setCell ⟨f,0,none⟩ (.int .i64 x)).setCell ⟨f,1,none⟩ (.int .i64 p)).alloc (.cells #[.int .i64 x,.int .i64 p] 124)):=((bP.set w f 0 _).trans (bP.set _ f 1 _)).trans (bP.below f ((Below.refl _ _).alloc (Nat.le_refl _) _));simp [bodyPostS,results,Tryz.results31,hB,hS]
end Go.Proofs.YthgkedoildcbcaaGreatDoor
