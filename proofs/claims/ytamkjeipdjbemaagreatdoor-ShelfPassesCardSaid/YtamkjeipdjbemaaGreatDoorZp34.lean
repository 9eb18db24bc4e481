/- Cursor + CurFail + CurSkip + CurPlain + CurHex + CurChar + Caught -/
import Derived.Test.YtamkjeipdjbemaaGreatDoorZp29
import Derived.Test.YtamkjeipdjbemaaGreatDoorZp24
import Derived.Test.YtamkjeipdjbemaaGreatDoorZp10
import Derived.Defers
import Derived.Recover
set_option maxHeartbeats 3200000
set_option maxRecDepth 100000
namespace Go.Proofs.YtamkjeipdjbemaaGreatDoor
open Go.RowKit
def nF (w:World) (g:Nat) (cs:Array Value):Prop:=∃ t,an w g t cs
section
variable {w w' : World} {g : Nat} {cs : Array Value}
theorem nF.lt (h:nF w g cs):g<w.heap.size:=let ⟨_,hb⟩:=h;hb.lt
theorem nF.cell (h:nF w g cs) (i:Nat):w.cell? ⟨g,i,none⟩=cs[i]?:=let ⟨_,hb⟩:=h;hb.cell i
theorem nF.frozen (h:nF w g cs) (i:Nat):w.frozen? ⟨g,i,none⟩=false:=let ⟨_,hb⟩:=h;hb.frozen i
theorem nF.drewN (h:nF w g cs) (n:Nat):nF (w.drewN n) g cs:=h
theorem nF.put (h:nF w g cs) (i:Nat) (u:Value):nF (w.setCell ⟨g,i,none⟩ u) g (cs.setIfInBounds i u):=let ⟨t,hb⟩:=h;⟨t,hb.put i u⟩
theorem nF.below {B:Nat} (h:nF w g cs) (hb:Below B w w') (hg:g<B):nF w' g cs:=let ⟨t,hc⟩:=h;⟨t,hc.below hb hg⟩
theorem nF.same (h:nF w g cs) (he:w'.heap[g]? = w.heap[g]?):nF w' g cs:=let ⟨t,hc⟩:=h;⟨t,he.trans hc⟩
end
structure aB (w:World) (C:Nat) (A:Option Addr) (n c:Nat) (L:List Int) (i:Nat):Prop where
  blk:nF w C #[.slice A n c,.int .i64 i]
  row:cL w (fun b=>b≠C) 1 A n (runeCells L)
  size:n≤4611686018427387904
  le:i≤n
  cap:n≤c
theorem aB.len {w:World} {C:Nat} {A:Option Addr} {n c:Nat} {L:List Int} {i:Nat} (h:aB w C A n c L i):L.length=n:=by
 have:=h.row.1;rw [runeCells_length]at this;omega
theorem aB.drewN {w:World} {C:Nat} {A:Option Addr} {n c:Nat} {L:List Int} {i:Nat} (h:aB w C A n c L i) (k:Nat):aB (w.drewN k) C A n c L i :=
  ⟨h.blk.drewN k,h.row.keep (aa.any (below_drewN qqb k)),h.size,h.le,h.cap⟩
theorem CN (w:World) (C:Nat) (A:Option Addr) (n c:Nat) (L:List Int) (i k:Nat) (h:aB w C A n c L i) (hk:k≤1000) :
    Calls Tryz.prog 61 #[.pointer (some ⟨C,0,none⟩),.int .i64 k] w fun e w'=>e=.returned (.int .i32 (pk L (i+k)))∧∃ m,w'=w.drewN m:=by
 have c0:=h.blk.cell 0;have c1:=h.blk.cell 1;have hl:=h.len;have hs:=h.size;have hi:=h.le;have hw1:IntKind.i64.wrap ((i:Int)+k)=((i+k:Nat):Int):=(by rw [wrap_small _ (by omega) (by omega)];omega);by_cases hlt:i+k<n
 ·obtain⟨x,hx⟩:∃ x,L[i+k]? = some x:=⟨_,List.getElem?_eq_getElem (by omega)⟩;rw [Ib hx];obtain⟨b,o,rfl,_,_,hc⟩:=h.row.2 (by omega);have d0:w.cell? ⟨b,o+(i+k),none⟩=some (.int .i32 x):=hc _ _ (by simp [runeCells,hx]);have hg:decide ((n:Int)≤((i+k:Nat):Int))=false:=decide_eq_false (by omega);have hk0:(0:Int)≤((i+k:Nat):Int):=(by omega);have hk1:((i+k:Nat):Int)<(n:Int):=(by omega);clear hc h hx hl;go_enter Tryz.func61,Tryz.ntmps61;go_wp2_with fail;go_quiet (fail);go_wp2_with fail;go_quiet (fail);go_wp2_with fail;go_ret;exact⟨rfl,_,by rw [World.drewN_drewN]⟩
 rw [qS (by omega)];have hg:decide ((n:Int)≤((i+k:Nat):Int))=true:=decide_eq_true (by omega);clear h hl;go_enter Tryz.func61,Tryz.ntmps61;go_wp2_with fail;go_quiet (fail);go_wp2_with fail;go_ret;exact⟨rfl,_,rfl⟩
theorem mT (w:World) (C:Nat) (A:Option Addr) (n c:Nat) (L:List Int) (i:Nat) (h:aB w C A n c L i) :
    Calls Tryz.prog 35 #[.pointer (some ⟨C,0,none⟩)] w fun e w'=>e=.returned (.int .i32 (pk L i))∧∃ m,w'=w.drewN m:=by
 have HL:=qqh (show Calls Tryz.prog 61 #[.pointer (some ⟨C,0,none⟩),.int .i64 0] w fun e w'=>e=.returned (.int .i32 (pk L i))∧∃ m,w'=w.drewN m from CN w C A n c L i 0 h (Nat.zero_le _));clear h;go_enter Tryz.func35,Tryz.ntmps35;go_wp2_with fail;refine HL.out.mono ?_;rintro e w1 ⟨rfl,hm⟩;go_wp2_with fail;go_ret;exact⟨rfl,hm⟩
theorem cE (e p:Int) (w:World) :
    Calls Tryz.prog 33 #[.int .i64 e,.int .i64 p] w fun en w'=>en=.panicked [{ v:=.iface 117 (.agg #[.int .i64 e,.int .i64 p]),recovered:=false }]∧w'=w:=by
 go_enter Tryz.func33,Tryz.ntmps33;go_wp2_with fail;exact⟨rfl,rfl,rfl⟩
theorem tA (r:Int) (w:World) :
    Calls Tryz.prog 93 #[.int .i32 r] w fun e w'=>e=.returned (.bool (qB r))∧w'=w:=by
 go_enter Tryz.func93,Tryz.ntmps93;go_wp2;(all_goals go_ret);(all_goals refine⟨aV ?_,rfl⟩);(all_goals (rw [Bool.eq_iff_iff];simp [qB];try omega))
def bA (e p:Int):Ending:=.panicked [{ v:=.iface 117 (.agg #[.int .i64 e,.int .i64 p]),recovered:=false }]
theorem aB.move {w:World} {C:Nat} {A:Option Addr} {n c:Nat} {L:List Int} {i j:Nat} (h:aB w C A n c L i) (hj:j≤n):aB (w.setCell ⟨C,1,none⟩ (.int .i64 j)) C A n c L j :=
  ⟨h.blk.put 1 _,h.row.keep (aa.setCell (p:=⟨C,1,none⟩) _ (fun _ hb=>hb) (fun _ h _=>h)),h.size,hj,h.cap⟩
theorem fM (w:World) (C:Nat) (A:Option Addr) (n c:Nat) (L:List Int) (i:Nat) (r:Int) (h:aB w C A n c L i) (hr:r ≠ -1) :
    Calls Tryz.prog 37 #[.pointer (some ⟨C,0,none⟩),.int .i32 r] w fun e w'=>
      match bw L i r with
      | .ok j=>e=.returned (.tuple #[])∧aB w' C A n c L j∧bQ w C w'
      | .error (x,p)=>e=bA x p∧bQ w C w':=by
 have iP:=qqh (mT w C A n c L i h);have HC:=qqh h;have hs:=h.size;have hi:=h.le;have hl:=h.len;have hw1:IntKind.i64.wrap ((i:Int)+1)=((i+1:Nat):Int):=(by rw [wrap_small _ (by omega) (by omega)];omega);clear h;unfold bw;by_cases he:pk L i=r
 ·have hlt:i<L.length:=bO (by omega);rw [if_pos he];have hg:decide (pk L i=r)=true:=decide_eq_true he;go_enter Tryz.func37,Tryz.ntmps37;go_wp2_with fail;refine iP.out.mono ?_;rintro e w1 ⟨rfl,m,rfl⟩;have j8:=qqh (HC.out.drewN m);have c0:=j8.out.blk.cell 0;have c1:=j8.out.blk.cell 1;have f1:=j8.out.blk.frozen 1;go_wp2_with fail;have hm:=j8.out.move (j:=i+1) (by omega);rw [show(((i+1:Nat)):Int)=(i:Int)+1 by omega]at hm;go_end0;exact⟨rfl,hm,(bQ.drewN w C m).trans (bQ.set _ C 1 _)⟩
 rw [if_neg he];go_enter Tryz.func37,Tryz.ntmps37;go_wp2_with fail;refine iP.out.mono ?_;rintro e w1 ⟨rfl,m,rfl⟩;have j8:=qqh (HC.out.drewN m);have c0:=j8.out.blk.cell 0;have c1:=j8.out.blk.cell 1;go_wp2_with fail;refine(cE 2 i _).mono ?_;rintro e w2 ⟨rfl,rfl⟩;go_wp2_with fail;exact⟨rfl,rfl,bQ.drewN w C m⟩
theorem jc (w:World) (C:Nat) (A:Option Addr) (n c:Nat) (L:List Int) (i:Nat) (h:aB w C A n c L i) :
    Calls Tryz.prog 60 #[.pointer (some ⟨C,0,none⟩)] w fun e w'=>e=.returned (.tuple #[])∧aB w' C A n c L (aW L i)∧bQ w C w':=by
 have HC:=qqh h;have hs:=h.size;have hl:=h.len;clear h;go_enter Tryz.func60,Tryz.ntmps60;go_wp2_with fail;go_loopw [2] (fun _ wr=>∃ j,j≤n∧aW L i=aW L j∧aB wr C A n c L j∧bQ w C wr) (fun _ wr=>n - (match wr.cell? ⟨C,1,none⟩with | some (.int _ j)=>j.toNat | _=>0));(case atStart=>exact⟨i,HC.out.le,rfl,HC.out,bQ.refl _ _⟩);obtain⟨j,hj,zL,hc,hb⟩:=hrel;have HJ:=qqh hc;have HB:=qqh hb;have HS:=qqh zL;have iP:=qqh (mT wr C A n c L j hc);have hm0:=hc.blk.cell 1;have nc:=qqh hm0;have hw1:IntKind.i64.wrap ((j:Int)+1)=((j+1:Nat):Int):=(by rw [wrap_small _ (by omega) (by omega)];omega);clear hc hb zL hm0;go_wp2_with fail;refine iP.out.mono ?_;rintro e w1 ⟨rfl,m,rfl⟩;have j8:=qqh (HJ.out.drewN m);go_wp2_with fail;refine(tA _ _).mono ?_;rintro e w2 ⟨rfl,rfl⟩;by_cases eP:qB (pk L j)=true
 ·rw [eP];have hlt:j<L.length:=bO (fun e=>by rw [e]at eP;exact absurd eP (by decide));have c0:=j8.out.blk.cell 0;have c1:=j8.out.blk.cell 1;have f1:=j8.out.blk.frozen 1;have SE:=j8.out.move (j:=j+1) (by omega);rw [show(((j+1:Nat)):Int)=(j:Int)+1 by omega]at SE;have uY:=qqh SE;clear SE;go_wp2_with fail;refine⟨⟨j+1,by omega,HS.out.trans (ey hlt eP),uY.out,(HB.out.trans (bQ.drewN wr C m)).trans (bQ.set _ C 1 _)⟩,?_⟩;have e1:((wr.drewN m).setCell ⟨C,1,none⟩ (.int .i64 ((j:Int)+1))).cell? ⟨C,1,none⟩=some (.int .i64 ((j+1:Nat):Int)):=uY.out.blk.cell 1;have e2:wr.cell? ⟨C,1,none⟩=some (.int .i64 (j:Int)):=nc.out;rw [e1,e2];simp only [Int.toNat_natCast];omega
 rw [Bool.not_eq_true]at eP;rw [eP];go_wp2_with fail;go_end0;refine⟨rfl,?_,HB.out.trans (bQ.drewN wr C m)⟩;rw [HS.out,show aW L j=j from di (fun _=>eP)];exact j8.out
def F9 (r:Int):Prop:=r = -1∨Utf8.valid r=true
def sC:ByteArray:=⟨#[91,93,38,45,94,92,58,36,40,41,123,125,60,62,124,59,35,39,34,61,44]⟩
theorem Eg (r:Int):(sC.data.toList.any fun b=>decide ((b.toNat:Int)=r))=sF.contains r:=by
 rw [Bool.eq_iff_iff];simp [sC,sF];omega
theorem oS (r:Int) (w:World) (hr:F9 r) :
    Calls Tryz.prog 118 #[.int .i32 r] w fun e w'=>e=.returned (.bool (dG r))∧Below w.heap.size w w':=by
 have HS:=qqh (show Calls Tryz.prog 141 #[.string sC,.int .i32 r] w fun e w'=>e=.returned (.bool (sF.contains r))∧Below w.heap.size w w' by
  have:=pY sC r w (by decide) (by decide) (by decide) hr;rw [Eg]at this;exact this)
 clear hr;unfold dG;by_cases h0:0≤r
 ·have hd:decide (0≤r)=true:=decide_eq_true h0;rw [hd];cases hb:qB r
  ·go_enter Tryz.func118,Tryz.ntmps118;go_wp2_with fail;refine(tA _ _).mono ?_;rintro e w1 ⟨rfl,hw⟩;rw [hw,hb];go_wp2_with fail;refine HS.out.mono ?_;rintro e w2 ⟨rfl,aX⟩;go_wp2_with fail;go_ret;exact⟨by simp,aX⟩
  go_enter Tryz.func118,Tryz.ntmps118;go_wp2_with fail;refine(tA _ _).mono ?_;rintro e w1 ⟨rfl,hw⟩;rw [hw,hb];go_wp2_with fail;go_ret;exact⟨by simp,qqb⟩
 have hd:decide (0≤r)=false:=decide_eq_false h0;rw [hd];go_enter Tryz.func118,Tryz.ntmps118;go_wp2_with fail;go_ret;exact⟨by simp,qqb⟩
def ia (L:List Int):Prop:=∀ x∈L,Utf8.valid x=true
theorem ia.ok {L:List Int} (h:ia L):dF L:=fun x hx=>by
 have:=h x hx;simp [Utf8.valid]at this;omega
theorem ia.pk {L:List Int} (h:ia L) (i:Nat):F9 (pk L i):=by
 unfold Go.Proofs.YtamkjeipdjbemaaGreatDoor.pk;cases hi:L[i]? with
 | none=>exact .inl rfl
 | some x=>exact .inr (h x (List.mem_of_getElem? hi))
theorem aB.at {w:World} {C:Nat} {A:Option Addr} {n c:Nat} {L:List Int} {i:Nat} (h:aB w C A n c L i) (h0:0<n) :
    ∃ b off,A=some ⟨b,off,none⟩∧b<w.heap.size∧∀ j x,L[j]? = some x→w.cell? ⟨b,off+j,none⟩=some (.int .i32 x):=by
 obtain⟨b,off,e,_,hb,hc⟩:=h.row.2 h0;exact⟨b,off,e,hb,fun j x hx=>hc j _ (by rw [cU,hx];rfl)⟩
theorem xO {w:World} {C:Nat} {b off n c:Nat} {L:List Int} {k:Nat} (h:aB w C (some ⟨b,off,none⟩) n c L k) {i j:Nat} (hij:i≤j) (hj:j≤n) :
    (convert 22 9 (.slice (if c=i then some ⟨b,off,none⟩else some ⟨b,off+i,none⟩) (j - i) (c - i))).run Tryz.prog w=.ok (.string (runesBytes (aT L i j))) w:=by
 have hlen:=h.len;have hcap:=h.cap;by_cases hn:0<n
 ·obtain⟨b',off',e,_,hc⟩:=h.at hn;cases e;have key:∀ (o:Nat),o=off+i∨j - i=0→(convert 22 9 (.slice (some ⟨b,o,none⟩) (j - i) (c - i))).run Tryz.prog w=.ok (.string (runesBytes (aT L i j))) w:=by
   intro o ho;rcases ho with rfl | ho
   ·have:=run_convert_runes (P:=Tryz.prog) w 22 9 21 ⟨b,off+i,none⟩ (j - i) (c - i) (aT L i j) (by unfold aT;rw [List.length_take,List.length_drop];omega) Tryz.underlying22 Tryz.underlying21 Tryz.underlying9 (fun q hq=>by
     rw [ja,Nat.add_assoc];unfold aT at hq ⊢;rw [List.length_take,List.length_drop]at hq;refine hc (i+q) _ ?_;rw [List.getD_eq_getElem?_getD,List.getElem?_take_of_lt (by omega),List.getElem?_drop];rw [List.getElem?_eq_getElem (by omega)];rfl)
    rw [show(aT L i j).take (j - i)=aT L i j from List.take_of_length_le (by unfold aT;rw [List.length_take];omega)]at this;exact this
   have:=run_convert_runes (P:=Tryz.prog) w 22 9 21 ⟨b,o,none⟩ (j - i) (c - i) [] (by rw [ho];simp) Tryz.underlying22 Tryz.underlying21 Tryz.underlying9 (fun q hq=>by simp at hq);rw [show([]:List Int).take (j - i)=aT L i j by unfold aT;rw [ho];simp]at this;exact this
  split;exact key _ (.inr (by omega));exact key _ (.inl rfl)
 have:=run_convert_runes (P:=Tryz.prog) w 22 9 21 (if c=i then ⟨b,off,none⟩else ⟨b,off+i,none⟩) (j - i) (c - i) [] (by rw [show j - i=0 by omega];simp) Tryz.underlying22 Tryz.underlying21 Tryz.underlying9 (fun q hq=>by simp at hq);have e:(if c=i then some (⟨b,off,none⟩:Addr)else some ⟨b,off+i,none⟩)=some (if c=i then (⟨b,off,none⟩:Addr)else ⟨b,off+i,none⟩):=(by split <;> rfl);rw [show([]:List Int).take (j - i)=aT L i j by unfold aT;rw [show j - i=0 by omega];simp]at this;rw [e];exact this
def EJ (w:World) (C:Nat) (A:Option Addr) (n c:Nat) (L:List Int) (r:kG Int) (e:Ending) (w':World):Prop :=
  match r with
  | .ok (x,j)=>e=.returned (.int .i32 x)∧aB w' C A n c L j∧bQ w C w'
  | .error (x,p)=>e=bA x p∧bQ w C w'
def OS:ByteArray:=⟨#[48,49,50,51,52,53,54,55,56,57,97,98,99,100,101,102,65,66,67,68,69,70]⟩
theorem Pa (r:Int):(OS.data.toList.any fun b=>decide ((b.toNat:Int)=r))=fD r:=by
 rw [Bool.eq_iff_iff];simp [OS,fD];omega
theorem Bo (r:Int) (w:World) (hr:F9 r) :
    Calls Tryz.prog 141 #[.string OS,.int .i32 r] w fun e w'=>e=.returned (.bool (fD r))∧Below w.heap.size w w':=by
 have:=pY OS r w (by decide) (by decide) (by decide) hr;rw [Pa]at this;exact this
theorem aB.below {w w':World} {C:Nat} {A:Option Addr} {n c:Nat} {L:List Int} {i:Nat} (h:aB w C A n c L i) (hb:Below w.heap.size w w'):aB w' C A n c L i :=
  ⟨h.blk.below hb h.blk.lt,h.row.keep (aa.any hb),h.size,h.le,h.cap⟩
theorem Qq {L:List Int} {i:Nat} {e:Int × Nat} (h:bw L (i+1) 123=.error e):kR L i=.error e:=by unfold kR;rw [h]
theorem He {L:List Int} {i a r:Nat} (h:bw L (i+1) 123=.ok a) (hr:r=aF fD L a) (hb:r - a<1∨6<r - a):kR L i=.error (2,a):=by
 subst hr;unfold kR;rw [h];simp only;rw [if_pos hb]
theorem Pv {L:List Int} {i a r:Nat} {e:Int × Nat} (h:bw L (i+1) 123=.ok a) (hr:r=aF fD L a) (hb:¬(r - a<1∨6<r - a)) (h2:bw L r 125=.error e):kR L i=.error e:=by
 subst hr;unfold kR;rw [h];simp only;rw [if_neg hb,h2]
theorem OZ {L:List Int} {i a r k:Nat} (h:bw L (i+1) 123=.ok a) (hr:r=aF fD L a) (hb:¬(r - a<1∨6<r - a)) (h2:bw L r 125=.ok k) (h3:1114111<eJ (aT L a r)):kR L i=.error (3,i):=by
 subst hr;unfold kR;rw [h];simp only;rw [if_neg hb,h2];simp only;rw [if_pos h3]
theorem R6 {L:List Int} {i a r k:Nat} (h:bw L (i+1) 123=.ok a) (hr:r=aF fD L a) (hb:¬(r - a<1∨6<r - a)) (h2:bw L r 125=.ok k) (h3:¬ 1114111<eJ (aT L a r)):kR L i=.ok (eJ (aT L a r),k):=by
 subst hr;unfold kR;rw [h];simp only;rw [if_neg hb,h2];simp only;rw [if_neg h3]
def U2 (w:World) (C:Nat) (A:Option Addr) (n c:Nat) (L:List Int) (a r:Nat) (wr:World):Prop :=
  ∃ j,a≤j∧j≤n∧r=aF fD L j∧aB wr C A n c L j∧bQ w C wr
theorem PS (w:World) (C:Nat) (A:Option Addr) (n c:Nat) (L:List Int) (i:Nat) (h:aB w C A n c L i) (hL:ia L) (hi:i<n) :
    Calls Tryz.prog 143 #[.pointer (some ⟨C,0,none⟩)] w (EJ w C A n c L (kR L i)):=by
 have hs:=h.size;have hlen:=h.len;obtain⟨b,off,rfl,_,_⟩:=h.at (by omega);have HL:=qqh hL;have c0:=h.blk.cell 0;have c1:=h.blk.cell 1;have f1:=h.blk.frozen 1;have hw1:IntKind.i64.wrap ((i:Int)+1)=((i+1:Nat):Int):=(by rw [wrap_small _ (by omega) (by omega)];omega);have hm:=h.move (j:=i+1) (by omega);have RM:=bQ.set w C 1 (.int .i64 ((i+1:Nat):Int));rw [show(((i+1:Nat)):Int)=(i:Int)+1 by omega]at hm RM;have HM:=qqh hm;have bF:=qqh RM;clear hL hm h RM;obtain⟨R,hR⟩:∃ R,kR L i=R:=⟨_,rfl⟩;rw [hR];have fW:=qqh hR;clear hR;cases hn:bw L (i+1) 123 with
 | error e0=>
  obtain⟨x,p⟩:=e0;have HN:=qqh (fM _ C _ n c L (i+1) 123 HM.out (by decide));rw [hn]at HN;go_enter Tryz.func143,Tryz.ntmps143;go_wp2_with fail;refine HN.out.mono ?_;rintro e w1 ⟨he,hb⟩;unfold bA at he;subst he;have lD:=qqh (bF.out.trans hb);clear hb HN;go_wp2_with fail;rw [show R=_ from fW.out.symm.trans (Qq hn)];exact⟨rfl,rfl,lD.out⟩
 | ok a=>
  have Sp:=qqh hn;obtain⟨rfl,hpk⟩:=gE hn;have HN:=qqh (fM _ C _ n c L (i+1) 123 HM.out (by decide));rw [hn]at HN;have hi1:i+1<n:=(by rw [← hlen];exact bO (by rw [hpk];decide));clear hn;generalize ha:i+1+1=a at *;have yj:=qqh (wo fD L a);generalize hr:aF fD L a=r at *;have iT:=qqh hr.symm;clear hr;go_enter Tryz.func143,Tryz.ntmps143;go_wp2_with fail;refine HN.out.mono ?_;rintro e w1 ⟨rfl,hc,hb⟩;have HC:=qqh hc;have bf:=qqh (bF.out.trans hb);have g0:=hc.blk.cell 0;have g1:=hc.blk.cell 1;clear hb hc HN bF HM;go_wp2_with fail;go_loopw [25] (fun _ wr=>U2 w C (some ⟨b,off,none⟩) n c L a r wr) (fun _ wr=>n - (match wr.cell? ⟨C,1,none⟩with | some (.int _ j)=>j.toNat | _=>0));(case atStart=>exact⟨a,qql,HC.out.le,iT.out,HC.out,bf.out⟩);obtain⟨j,haj,hj,hrun,uq,B8⟩:=hrel;have HJ:=qqh uq;have HB:=qqh B8;have HR:=qqh hrun;have iP:=qqh (fun(W:World) (h:aB W C (some ⟨b,off,none⟩) n c L j)=>mT W C (some ⟨b,off,none⟩) n c L j h);have nc:=qqh (uq.blk.cell 1);have hok:=HL.out.pk j;have KS:=qqh (fun(W:World)=>Bo (pk L j) W hok);clear uq B8 hrun;by_cases EL:fD (pk L j)=true
  ·rw [EL]at KS;have hlt:j<L.length:=bO (fun e=>by rw [e]at EL;exact absurd EL (by decide));have h0:0≤pk L j:=(oJ (l:=[pk L j]) (by simpa using EL) _ (by simp)).1;have hg:decide (0≤pk L j)=true:=decide_eq_true h0;have ya:IntKind.i64.wrap ((j:Int)+1)=((j+1:Nat):Int):=(by rw [wrap_small _ (by omega) (by omega)];omega);go_wp2_with fail;refine(iP.out _ HJ.out).mono ?_;rintro e w2 ⟨rfl,m,rfl⟩;go_wp2_with fail;refine(KS.out _).mono ?_;rintro e w3 ⟨rfl,bM⟩;have mh:=qqh ((HJ.out.drewN m).below bM);have bN:=qqh ((HB.out.trans (bQ.drewN wr C m)).trans (bQ.below C bM));clear bM;go_wp2_with fail;refine(iP.out _ mh.out).mono ?_;rintro e w4 ⟨rfl,m2,rfl⟩;have j8:=qqh (mh.out.drewN m2);have d0:=j8.out.blk.cell 0;have d1:=j8.out.blk.cell 1;have f2:=j8.out.blk.frozen 1;have SE:=j8.out.move (j:=j+1) (by omega);rw [show(((j+1:Nat)):Int)=(j:Int)+1 by omega]at SE;have uY:=qqh SE;clear SE;go_wp2_with fail;refine⟨⟨j+1,by omega,by omega,HR.out.trans (ey hlt EL),uY.out,(bN.out.trans (bQ.drewN w3 C m2)).trans (bQ.set _ C 1 _)⟩,?_⟩;have e1:((w3.drewN m2).setCell ⟨C,1,none⟩ (.int .i64 ((j:Int)+1))).cell? ⟨C,1,none⟩=some (.int .i64 ((j+1:Nat):Int)):=uY.out.blk.cell 1;have e2:wr.cell? ⟨C,1,none⟩=some (.int .i64 (j:Int)):=nc.out;rw [e1,e2];simp only [Int.toNat_natCast];omega
  rw [Bool.not_eq_true]at EL;rw [EL]at KS;obtain rfl:r=j:=HR.out.trans (di (fun _=>EL));clear HR;go_wp2_with fail;refine(iP.out _ HJ.out).mono ?_;rintro e w2 ⟨rfl,m,rfl⟩;go_wp2_with fail;refine(KS.out _).mono ?_;rintro e w3 ⟨rfl,bM⟩;have mh:=qqh ((HJ.out.drewN m).below bM);have bN:=qqh ((HB.out.trans (bQ.drewN wr C m)).trans (bQ.below C bM));clear bM;have d0:=mh.out.blk.cell 0;have d1:=mh.out.blk.cell 1;have sP:=fun q=>xO (mh.out.drewN q) haj hj;have hk1:(a:Int)≤(r:Int):=(by omega);have hk2:(r:Int)≤(c:Int):=(by have:=mh.out.cap;omega);have K6:(0:Int)≤(a:Int):=(by omega);have hds:∀ d∈aT L a r,fD d=true:=(by rw [yj.out];exact qb _);have HDS:=qqh hds;have Vr:(aT L a r).length=r - a:=(by unfold aT;rw [List.length_take,List.length_drop];omega);have hsz:(runesBytes (aT L a r)).size=r - a:=(by rw [uI (oJ hds),Vr]);have sK:=qqh (fI (oJ hds));generalize runesBytes (aT L a r)=s at *;clear hds;go_wp2_with fail;go_quiet (fail);have HJQ:=qqh (mh.out.drewN nq);have V1:=qqh (bN.out.trans (bQ.drewN w3 C nq));generalize w3.drewN nq=wq at HJQ V1 ⊢;generalize (if c=a then some ({ block:=b,off:=off }:Addr)else some { block:=b,off:=off+a })=Z;clear sP d0 d1 mh bN HJ HB nc hk1 hk2 K6;rcases (show r - a<1∨6<r - a∨(1≤r - a∧r - a≤6) by omega)with yJ | yJ | ⟨Bw,Pk⟩
  ·have hz:s.size=0:=(by omega);have HF:=qqh (fun(W:World)=>cE 2 a W);go_wp2_with fail;refine(HF.out _).mono ?_;rintro e w5 ⟨rfl,rfl⟩;go_wp2_with fail;rw [show R=_ from fW.out.symm.trans (He Sp.out iT.out (.inl yJ))];exact⟨rfl,rfl,V1.out⟩
  ·have HF:=qqh (fun(W:World)=>cE 2 a W);have hq1:decide ((s.size:Int)<1)=false:=decide_eq_false (by omega);have C8:decide ((6:Int)<(s.size:Int))=true:=decide_eq_true (by omega);go_wp2_with fail;refine(HF.out _).mono ?_;rintro e w5 ⟨rfl,rfl⟩;go_wp2_with fail;rw [show R=_ from fW.out.symm.trans (He Sp.out iT.out (.inr yJ))];exact⟨rfl,rfl,V1.out⟩
  have hq1:decide ((s.size:Int)<1)=false:=decide_eq_false (by omega);have C8:decide ((6:Int)<(s.size:Int))=false:=decide_eq_false (by omega);have HN:=qqh (fM wq C _ n c L r 125 HJQ.out (by decide));have KO:=qqh (show ¬(r - a<1∨6<r - a) by omega);cases hn2:bw L r 125 with
  | error e0=>
   obtain⟨x,p⟩:=e0;rw [hn2]at HN;go_wp2_with fail;refine HN.out.mono ?_;rintro e w5 ⟨he,hb⟩;unfold bA at he;subst he;have lD:=qqh (V1.out.trans hb);clear hb HN;go_wp2_with fail;rw [show R=_ from fW.out.symm.trans (Pv Sp.out iT.out KO.out hn2)];exact⟨rfl,rfl,lD.out⟩
  | ok k=>
   rw [hn2]at HN;have rB:=qqh hn2;obtain⟨x0,x1⟩:=nL (l:=aT L a r) HDS.out (by omega);have HPI:=qqh (fun(W:World)=>IW s (aT L a r) W sK.out HDS.out (by omega) (by omega));generalize hX:eJ (aT L a r)=X at *;have PC:=qqh hX;clear hX hn2;go_wp2_with fail;refine HN.out.mono ?_;rintro e w5 ⟨rfl,mu,eS⟩;have sM:=qqh mu;have eD:=qqh (V1.out.trans eS);clear mu eS;go_wp2_with fail;refine(HPI.out _).mono ?_;rintro e w6 ⟨rfl,fG⟩;have FP:=qqh (sM.out.below fG);have iQ:=qqh (eD.out.trans (bQ.below C fG));clear fG;by_cases hbig:1114111<X
   ·have HF:=qqh (fun(W:World)=>cE 3 i W);go_wp2_with fail;refine(HF.out _).mono ?_;rintro e w7 ⟨rfl,rfl⟩;go_wp2_with fail;rw [show R=_ from fW.out.symm.trans (OZ Sp.out iT.out KO.out rB.out (by rw [PC.out];exact hbig))];exact⟨rfl,rfl,iQ.out⟩
   have hwx:IntKind.i32.wrap X=X:=IntWalk.i32_in _ (by omega);go_wp2_with fail;go_ret;rw [show R=_ from fW.out.symm.trans (R6 Sp.out iT.out KO.out rB.out (by rw [PC.out];omega)),PC.out];exact⟨rfl,FP.out,iQ.out⟩
theorem Ey {L:List Int} {i:Nat} (h:dG (pk L i)=true):dz L i=.ok (pk L i,i+1):=by unfold dz;rw [if_pos h]
theorem LK {L:List Int} {i:Nat} (h:dG (pk L i)=false) (h2:pk L i≠92):dz L i=.error (2,i):=by unfold dz;rw [if_neg (by rw [h];decide),if_pos h2]
theorem IM {L:List Int} {i:Nat} (h2:pk L i=92):dz L i=if pk L (i+1)=110 then .ok (10,i+2)
  else if pk L (i+1)=116 then .ok (9,i+2)
  else if pk L (i+1)=117 then kR L (i+1)
  else if pk L (i+1)<0∨Gu (pk L (i+1))=true then .error (2,i+1)
  else .ok (pk L (i+1),i+2):=by
 unfold dz;rw [if_neg (by rw [h2];decide),if_neg (by rw [h2];decide)]
theorem EC (r:Int):Gu r=true↔(48≤r∧r≤57)∨(97≤r∧r≤122)∨(65≤r∧r≤90):=by
 unfold Gu;simp only [Bool.or_eq_true,Bool.and_eq_true,decide_eq_true_eq]
theorem aB.step {w:World} {C:Nat} {A:Option Addr} {n c:Nat} {L:List Int} {i:Nat} (h:aB w C A n c L i) (hi:i<n) :
    w.cell? ⟨C,1,none⟩=some (.int .i64 i)∧w.frozen? ⟨C,1,none⟩=false∧aB (w.setCell ⟨C,1,none⟩ (.int .i64 ((i:Int)+1))) C A n c L (i+1)∧bQ w C (w.setCell ⟨C,1,none⟩ (.int .i64 ((i:Int)+1))):=by
 have hm:=h.move (j:=i+1) hi;rw [show(((i+1:Nat)):Int)=(i:Int)+1 by omega]at hm;exact⟨h.blk.cell 1,h.blk.frozen 1,hm,bQ.set w C 1 _⟩
theorem CK (w:World) (C:Nat) (A:Option Addr) (n c:Nat) (L:List Int) (i:Nat) (h:aB w C A n c L i) (hL:ia L) :
    Calls Tryz.prog 123 #[.pointer (some ⟨C,0,none⟩)] w (EJ w C A n c L (dz L i)):=by
 have hs:=h.size;have hlen:=h.len;have HL:=qqh hL;have HC:=qqh h;have iP:=qqh (fun(W:World) (k:Nat) (h:aB W C A n c L k)=>mT W C A n c L k h);have j6:=qqh (fun(W:World) (k:Nat)=>oS (pk L k) W (hL.pk k));have hw1:IntKind.i64.wrap ((i:Int)+1)=(i:Int)+1:=wrap_small _ (by have:=h.le;omega) (by have:=h.le;omega);have hle:=h.le;clear h hL;obtain⟨R,hR⟩:∃ R,dz L i=R:=⟨_,rfl⟩;rw [hR];have fW:=qqh hR;clear hR;cases hp:dG (pk L i)with
 | true=>
  have hlt:i<L.length:=bO (fun e=>by rw [e]at hp;exact absurd hp (by decide));have gX:=qqh (show R=.ok (pk L i,i+1) from fW.out.symm.trans (Ey hp));have Nd:=qqh (fun(W:World)=>show Calls Tryz.prog 118 #[.int .i32 (pk L i)] W fun e w'=>e=.returned (.bool true)∧Below W.heap.size W w' by have:=j6.out W i;rwa [hp]at this);clear hp;go_enter Tryz.func123,Tryz.ntmps123;go_wp2_with fail;refine(iP.out _ _ HC.out).mono ?_;rintro e w1 ⟨rfl,m,rfl⟩;go_wp2_with fail;refine(Nd.out _).mono ?_;rintro e w2 ⟨rfl,hb⟩;have qT:=qqh ((HC.out.drewN m).below hb);have bf:=qqh ((bQ.drewN w C m).trans (bQ.below C hb));clear hb;obtain⟨d1,d2,d3,d4⟩:=qT.out.step (by omega);have qY:=qqh d3;have bN:=qqh (bf.out.trans d4);clear d3 d4;go_wp2_with fail;go_ret;rw [gX.out];exact⟨rfl,qY.out,bN.out⟩
 | false=>
  have Nd:=qqh (fun(W:World)=>show Calls Tryz.prog 118 #[.int .i32 (pk L i)] W fun e w'=>e=.returned (.bool false)∧Below W.heap.size W w' by have:=j6.out W i;rwa [hp]at this);by_cases yb:pk L i=92
  ·have hlt:i<L.length:=bO (by omega);have ET:=qqh (fW.out.symm.trans (IM yb));have tN:=qqh (fun(W:World) (h:aB W C A n c L i)=>show Calls Tryz.prog 35 #[.pointer (some ⟨C,0,none⟩)] W fun e w'=>e=.returned (.int .i32 92)∧∃ m,w'=W.drewN m by have:=iP.out W i h;rwa [yb]at this);rw [yb]at Nd;clear hp yb;go_enter Tryz.func123,Tryz.ntmps123;go_wp2_with fail;refine(tN.out _ HC.out).mono ?_;rintro e w1 ⟨rfl,m,rfl⟩;go_wp2_with fail;refine(Nd.out _).mono ?_;rintro e w2 ⟨rfl,hb⟩;have qT:=qqh ((HC.out.drewN m).below hb);have bf:=qqh ((bQ.drewN w C m).trans (bQ.below C hb));clear hb;obtain⟨d1,d2,d3,d4⟩:=qT.out.step (by omega);have qY:=qqh d3;have bN:=qqh (bf.out.trans d4);clear d3 d4;go_wp2_with fail;refine(iP.out _ _ qY.out).mono ?_;rintro e w3 ⟨rfl,m3,ER⟩;have zE:=qqh (qY.out.drewN m3);have bW:=qqh (bN.out.trans (bQ.drewN _ C m3));rw [← ER]at zE bW;clear ER d1 d2;have ya:IntKind.i64.wrap ((i:Int)+1+1)=(i:Int)+1+1:=wrap_small _ (by omega) (by omega);have ZS:=wC HL.out.ok (i+1);have KS:=qqh (fun(W:World) (hc:aB W C A n c L (i+1)) (hlt:i+1<n)=>PS W C A n c L (i+1) hc HL.out hlt);have hcast:((i+1:Nat):Int)=(i:Int)+1:=(by omega);generalize hr:pk L (i+1)=r at *;by_cases h1:r=110
   ·subst h1;have hlt2:i+1<n:=(by rw [← hlen];exact bO (by omega));have gX:=qqh (show R=.ok (10,i+2) from ET.out);obtain⟨d1,d2,d3,d4⟩:=zE.out.step hlt2;rw [hcast]at d1 d3 d4;have sM:=qqh d3;have eD:=qqh (bW.out.trans d4);clear d3 d4 ET hr;go_wp2_with fail;go_ret;rw [gX.out];exact⟨rfl,sM.out,eD.out⟩
   by_cases h2:r=116
   ·subst h2;have hlt2:i+1<n:=(by rw [← hlen];exact bO (by omega));have gX:=qqh (show R=.ok (9,i+2) from ET.out);obtain⟨d1,d2,d3,d4⟩:=zE.out.step hlt2;rw [hcast]at d1 d3 d4;have sM:=qqh d3;have eD:=qqh (bW.out.trans d4);clear d3 d4 ET hr;go_wp2_with fail;go_ret;rw [gX.out];exact⟨rfl,sM.out,eD.out⟩
   by_cases h3:r=117
   ·subst h3;have hlt2:i+1<n:=(by rw [← hlen];exact bO (by omega));have gX:=qqh (show R=kR L (i+1) from ET.out);have HX:=qqh (KS.out _ zE.out hlt2);clear ET hr KS;cases hx:kR L (i+1)with
    | error e0=>
     obtain⟨x,p⟩:=e0;rw [hx]at HX;have iz:=qqh (gX.out.trans hx);clear hx;go_wp2_with fail;refine HX.out.mono ?_;rintro e w5 ⟨he,hb⟩;unfold bA at he;subst he;have eD:=qqh (bW.out.trans hb);clear hb;go_wp2_with fail;rw [iz.out];exact⟨rfl,rfl,eD.out⟩
    | ok q=>
     obtain⟨x,p⟩:=q;rw [hx]at HX;have iz:=qqh (gX.out.trans hx);clear hx;go_wp2_with fail;refine HX.out.mono ?_;rintro e w5 ⟨rfl,hc,hb⟩;have sM:=qqh hc;have eD:=qqh (bW.out.trans hb);clear hb hc;go_wp2_with fail;go_ret;rw [iz.out];exact⟨rfl,sM.out,eD.out⟩
   have PM:=qqh (show R=if r<0∨Gu r=true then .error (2,i+1)else .ok (r,i+2) by rw [ET.out,if_neg h1,if_neg h2,if_neg h3]);have q1:(r == 110)=false:=(by simp;exact h1);have q2:(r == 116)=false:=(by simp;exact h2);have q3:(r == 117)=false:=(by simp;exact h3);clear ET h1 h2 h3 KS;by_cases yJ:r<0∨Gu r=true
   ·have gX:=qqh (show R=.error (2,i+1) by rw [PM.out,if_pos yJ]);have d1:=zE.out.blk.cell 1;have hcell:w3.cell? ⟨C,1,none⟩=some (.int .i64 ((i:Int)+1)):=(by rw [← hcast];exact d1);have HF:=qqh (fun(W:World)=>cE 2 ((i:Int)+1) W);rw [EC]at yJ;clear PM d1;rcases (show r<0∨(48≤r∧r≤57)∨(97≤r∧r≤122)∨(65≤r∧r≤90) by omega)with h1 | ⟨h1,h2⟩ | ⟨h1,h2⟩ | ⟨h1,h2⟩
    all_goals
      clear yJ
      go_wp2_with fail
      refine(HF.out _).mono ?_
      rintro e w5 ⟨rfl,rfl⟩
      go_wp2_with fail
      rw [gX.out]
      exact⟨rfl,by rw [bA,hcast],bW.out⟩
   have gX:=qqh (show R=.ok (r,i+2) by rw [PM.out,if_neg yJ]);rw [EC]at yJ;have hlt2:i+1<n:=(by rw [← hlen];exact bO (by omega));obtain⟨d1,d2,d3,d4⟩:=zE.out.step hlt2;rw [hcast]at d1 d3 d4;have sM:=qqh d3;have eD:=qqh (bW.out.trans d4);clear d3 d4 PM hr;rcases (show(0≤r∧r<48)∨(57<r∧r<65)∨(90<r∧r<97)∨122<r by omega)with ⟨h1,h2⟩ | ⟨h1,h2⟩ | ⟨h1,h2⟩ | h1
   all_goals
     clear yJ
     go_wp2_with fail
     go_ret
     rw [gX.out]
     exact⟨rfl,sM.out,eD.out⟩
  have gX:=qqh (show R=.error (2,i) from fW.out.symm.trans (LK hp yb));have agR:(pk L i != 92)=true:=(by simp [yb]);clear hp;go_enter Tryz.func123,Tryz.ntmps123;go_wp2_with fail;refine(iP.out _ _ HC.out).mono ?_;rintro e w1 ⟨rfl,m,rfl⟩;go_wp2_with fail;refine(Nd.out _).mono ?_;rintro e w2 ⟨rfl,hb⟩;have qT:=qqh ((HC.out.drewN m).below hb);have bf:=qqh ((bQ.drewN w C m).trans (bQ.below C hb));clear hb;have d1:=qT.out.blk.cell 1;go_wp2_with fail;refine(cE 2 i _).mono ?_;rintro e w3 ⟨rfl,rfl⟩;go_wp2_with fail;rw [gX.out];exact⟨rfl,rfl,bf.out⟩
theorem Dq (W:World) (v:Value):(Instr.typeAssert (.iface 117 v) 20 117 true).run Tryz.prog W=.ok (.tuple #[v,.bool true]) W:=by kernel_rfl
theorem DI (f:Addr) (w:World) :
    CallsD Tryz.prog 32 #[.pointer (some f)] .returning w fun e u' w'=>e=.returned (.tuple #[])∧u'=.returning∧w'=w:=by
 refine callsD_of_wpS Tryz.func32 rfl fun c₀ cs hu=>?_;apply wpS_seq;apply wpS_region;simp [wpOpsS,go_sem,recoverD,hu,Tryz.ntmps32,Exit.thenS];refine wpS_of_wp ?_;go_wp2_with fail;cases c₀;simp_all [bodyPostS,results,Tryz.results32]
theorem yW (f:Nat) (x p a b:Int) (t:TypeId) (older:List PanicEntry) (w:World) (hf:an w f t #[.int .i64 a,.int .i64 b]) :
    CallsD Tryz.prog 32 #[.pointer (some ⟨f,0,none⟩)] (.panicking ({ v:=.iface 117 (.agg #[.int .i64 x,.int .i64 p]),recovered:=false } :: older)) w fun e u' w'=>
      e=.returned (.tuple #[])∧u'=.panicking ({ v:=.iface 117 (.agg #[.int .i64 x,.int .i64 p]),recovered:=true } :: older)∧an w' f t #[.int .i64 x,.int .i64 p]∧bQ w f w':=by
 have f0:=hf.frozen 0;have f1:=hf.frozen 1;have c0:=hf.cell 0;have c1:=hf.cell 1;refine callsD_of_wpS Tryz.func32 rfl fun c₀ cs hu=>?_;apply wpS_seq;apply wpS_region;simp [wpOpsS,go_sem,recoverD,hu,Tryz.ntmps32,Exit.thenS];refine wpS_of_wp ?_;have e (V:Value):(#[Value.pointer (some ⟨f,0,none⟩)]++(Array.replicate 14 undef).setIfInBounds 4 V) = #[.pointer (some ⟨f,0,none⟩),undef,undef,undef,undef,V,undef,undef,undef,undef,undef,undef,undef,undef,undef]:=rfl;rw [e];have hlt:=hf.lt;have hta:=fun(W:World) (v:Value)=>Dq W v;go_wp2_with fail;have hB:an (((w.setCell ⟨f,0,none⟩ (.int .i64 x)).setCell ⟨f,1,none⟩ (.int .i64 p)).alloc (.cells #[.int .i64 x,.int .i64 p] 117)) f t #[.int .i64 x,.int .i64 p]:=((hf.put 0 _).put 1 _).alloc _;have hS:bQ w f (((w.setCell ⟨f,0,none⟩ (.int .i64 x)).setCell ⟨f,1,none⟩ (.int .i64 p)).alloc (.cells #[.int .i64 x,.int .i64 p] 117)):=((bQ.set w f 0 _).trans (bQ.set _ f 1 _)).trans (bQ.below f (qqb.alloc qql _));simp [bodyPostS,results,Tryz.results32,hB,hS]
end Go.Proofs.YtamkjeipdjbemaaGreatDoor
