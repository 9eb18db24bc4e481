/- Cursor + CurFail + CurSkip + CurPlain + CurHex + CurChar + Caught -/
import Derived.Test.YthgkedoildcbcaaGreatDoorZg23
import Derived.Test.YthgkedoildcbcaaGreatDoorZg22
import Derived.Test.YthgkedoildcbcaaGreatDoorZg8
import Derived.Defers
import Derived.Recover
set_option maxHeartbeats 3200000
set_option maxRecDepth 100000
namespace Go.Proofs.YthgkedoildcbcaaGreatDoor
open Go.RowKit
def mE (w:World) (g:Nat) (cs:Array Value):Prop:=∃ t,ai w g t cs
section
variable {w w' : World} {g : Nat} {cs : Array Value}
theorem mE.lt (h:mE w g cs):g<w.heap.size:=let ⟨_,hb⟩:=h;hb.lt
theorem mE.cell (h:mE w g cs) (i:Nat):w.cell? ⟨g,i,none⟩=cs[i]?:=let ⟨_,hb⟩:=h;hb.cell i
theorem mE.frozen (h:mE w g cs) (i:Nat):w.frozen? ⟨g,i,none⟩=false:=let ⟨_,hb⟩:=h;hb.frozen i
theorem mE.drewN (h:mE w g cs) (n:Nat):mE (w.drewN n) g cs:=h
theorem mE.put (h:mE w g cs) (i:Nat) (u:Value):mE (w.setCell ⟨g,i,none⟩ u) g (cs.setIfInBounds i u):=let ⟨t,hb⟩:=h;⟨t,hb.put i u⟩
theorem mE.below {B:Nat} (h:mE w g cs) (hb:Below B w w') (hg:g<B):mE w' g cs:=let ⟨t,hc⟩:=h;⟨t,hc.below hb hg⟩
theorem mE.same (h:mE w g cs) (he:w'.heap[g]? = w.heap[g]?):mE w' g cs:=let ⟨t,hc⟩:=h;⟨t,he.trans hc⟩
end
structure av (w:World) (C:Nat) (A:Option Addr) (n c:Nat) (L:List Int) (i:Nat):Prop where
  blk:mE w C #[.slice A n c,.int .i64 i]
  row:cE w (fun b=>b≠C) 1 A n (runeCells L)
  size:n≤4611686018427387904
  le:i≤n
  cap:n≤c
theorem av.len {w:World} {C:Nat} {A:Option Addr} {n c:Nat} {L:List Int} {i:Nat} (h:av w C A n c L i):L.length=n:=by
 have:=h.row.1;rw [runeCells_length]at this;omega
theorem av.drewN {w:World} {C:Nat} {A:Option Addr} {n c:Nat} {L:List Int} {i:Nat} (h:av w C A n c L i) (k:Nat):av (w.drewN k) C A n c L i :=
  ⟨h.blk.drewN k,h.row.keep (aa.any (below_drewN (Below.refl _ _) k)),h.size,h.le,h.cap⟩
theorem Bf (w:World) (C:Nat) (A:Option Addr) (n c:Nat) (L:List Int) (i k:Nat) (h:av w C A n c L i) (hk:k≤1000) :
    Calls Tryz.prog 53 #[.pointer (some ⟨C,0,none⟩),.int .i64 k] w fun e w'=>e=.returned (.int .i32 (pk L (i+k)))∧∃ m,w'=w.drewN m:=by
 have c0:=h.blk.cell 0;have c1:=h.blk.cell 1;have hl:=h.len;have hs:=h.size;have hi:=h.le;have hw1:IntKind.i64.wrap ((i:Int)+k)=((i+k:Nat):Int):=(by rw [wrap_small _ (by omega) (by omega)];omega);by_cases hlt:i+k<n
 ·obtain⟨x,hx⟩:∃ x,L[i+k]? = some x:=⟨_,List.getElem?_eq_getElem (by omega)⟩;rw [F3 hx];obtain⟨b,o,rfl,_,_,hc⟩:=h.row.2 (by omega);have d0:w.cell? ⟨b,o+(i+k),none⟩=some (.int .i32 x):=hc _ _ (by simp [runeCells,hx]);have hg:decide ((n:Int)≤((i+k:Nat):Int))=false:=decide_eq_false (by omega);have hk0:(0:Int)≤((i+k:Nat):Int):=(by omega);have hk1:((i+k:Nat):Int)<(n:Int):=(by omega);clear hc h hx hl;go_enter Tryz.func53,Tryz.ntmps53;go_wp2_with fail;go_quiet (fail);go_wp2_with fail;go_quiet (fail);go_wp2_with fail;go_ret;exact⟨rfl,_,by rw [World.drewN_drewN]⟩
 rw [pz (by omega)];have hg:decide ((n:Int)≤((i+k:Nat):Int))=true:=decide_eq_true (by omega);clear h hl;go_enter Tryz.func53,Tryz.ntmps53;go_wp2_with fail;go_quiet (fail);go_wp2_with fail;go_ret;exact⟨rfl,_,rfl⟩
theorem lJ (w:World) (C:Nat) (A:Option Addr) (n c:Nat) (L:List Int) (i:Nat) (h:av w C A n c L i) :
    Calls Tryz.prog 34 #[.pointer (some ⟨C,0,none⟩)] w fun e w'=>e=.returned (.int .i32 (pk L i))∧∃ m,w'=w.drewN m:=by
 have HL:=qqh (show Calls Tryz.prog 53 #[.pointer (some ⟨C,0,none⟩),.int .i64 0] w fun e w'=>e=.returned (.int .i32 (pk L i))∧∃ m,w'=w.drewN m from Bf w C A n c L i 0 h (Nat.zero_le _));clear h;go_enter Tryz.func34,Tryz.ntmps34;go_wp2_with fail;refine HL.out.mono ?_;rintro e w1 ⟨rfl,hm⟩;go_wp2_with fail;go_ret;exact⟨rfl,hm⟩
theorem bV (e p:Int) (w:World) :
    Calls Tryz.prog 32 #[.int .i64 e,.int .i64 p] w fun en w'=>en=.panicked [{ v:=.iface 124 (.agg #[.int .i64 e,.int .i64 p]),recovered:=false }]∧w'=w:=by
 go_enter Tryz.func32,Tryz.ntmps32;go_wp2_with fail;exact⟨rfl,rfl,rfl⟩
theorem rK (r:Int) (w:World) :
    Calls Tryz.prog 79 #[.int .i32 r] w fun e w'=>e=.returned (.bool (pO r))∧w'=w:=by
 go_enter Tryz.func79,Tryz.ntmps79;go_wp2;(all_goals go_ret);(all_goals refine⟨bg ?_,rfl⟩);(all_goals (rw [Bool.eq_iff_iff];simp [pO];try omega))
def aS (e p:Int):Ending:=.panicked [{ v:=.iface 124 (.agg #[.int .i64 e,.int .i64 p]),recovered:=false }]
theorem av.move {w:World} {C:Nat} {A:Option Addr} {n c:Nat} {L:List Int} {i j:Nat} (h:av w C A n c L i) (hj:j≤n):av (w.setCell ⟨C,1,none⟩ (.int .i64 j)) C A n c L j :=
  ⟨h.blk.put 1 _,h.row.keep (aa.setCell (p:=⟨C,1,none⟩) _ (fun _ hb=>hb) (fun _ h _=>h)),h.size,hj,h.cap⟩
theorem eS (w:World) (C:Nat) (A:Option Addr) (n c:Nat) (L:List Int) (i:Nat) (r:Int) (h:av w C A n c L i) (hr:r ≠ -1) :
    Calls Tryz.prog 36 #[.pointer (some ⟨C,0,none⟩),.int .i32 r] w fun e w'=>
      match aQ L i r with
      | .ok j=>e=.returned (.tuple #[])∧av w' C A n c L j∧bJ w C w'
      | .error (x,p)=>e=aS x p∧bJ w C w':=by
 have gP:=qqh (lJ w C A n c L i h);have HC:=qqh h;have hs:=h.size;have hi:=h.le;have hl:=h.len;have hw1:IntKind.i64.wrap ((i:Int)+1)=((i+1:Nat):Int):=(by rw [wrap_small _ (by omega) (by omega)];omega);clear h;unfold aQ;by_cases he:pk L i=r
 ·have hlt:i<L.length:=bB (by omega);rw [if_pos he];have hg:decide (pk L i=r)=true:=decide_eq_true he;go_enter Tryz.func36,Tryz.ntmps36;go_wp2_with fail;refine gP.out.mono ?_;rintro e w1 ⟨rfl,m,rfl⟩;have jq:=qqh (HC.out.drewN m);have c0:=jq.out.blk.cell 0;have c1:=jq.out.blk.cell 1;have f1:=jq.out.blk.frozen 1;go_wp2_with fail;have hm:=jq.out.move (j:=i+1) (by omega);rw [show(((i+1:Nat)):Int)=(i:Int)+1 by omega]at hm;go_end0;exact⟨rfl,hm,(bJ.drewN w C m).trans (bJ.set _ C 1 _)⟩
 rw [if_neg he];go_enter Tryz.func36,Tryz.ntmps36;go_wp2_with fail;refine gP.out.mono ?_;rintro e w1 ⟨rfl,m,rfl⟩;have jq:=qqh (HC.out.drewN m);have c0:=jq.out.blk.cell 0;have c1:=jq.out.blk.cell 1;go_wp2_with fail;refine(bV 2 i _).mono ?_;rintro e w2 ⟨rfl,rfl⟩;go_wp2_with fail;exact⟨rfl,rfl,bJ.drewN w C m⟩
theorem ig (w:World) (C:Nat) (A:Option Addr) (n c:Nat) (L:List Int) (i:Nat) (h:av w C A n c L i) :
    Calls Tryz.prog 52 #[.pointer (some ⟨C,0,none⟩)] w fun e w'=>e=.returned (.tuple #[])∧av w' C A n c L (aN L i)∧bJ w C w':=by
 have HC:=qqh h;have hs:=h.size;have hl:=h.len;clear h;go_enter Tryz.func52,Tryz.ntmps52;go_wp2_with fail;go_loopw [2] (fun _ wr=>∃ j,j≤n∧aN L i=aN L j∧av wr C A n c L j∧bJ w C wr) (fun _ wr=>n - (match wr.cell? ⟨C,1,none⟩with | some (.int _ j)=>j.toNat | _=>0));(case atStart=>exact⟨i,HC.out.le,rfl,HC.out,bJ.refl _ _⟩);obtain⟨j,hj,yB,hc,hb⟩:=hrel;have HJ:=qqh hc;have HB:=qqh hb;have HS:=qqh yB;have gP:=qqh (lJ wr C A n c L j hc);have hm0:=hc.blk.cell 1;have nT:=qqh hm0;have hw1:IntKind.i64.wrap ((j:Int)+1)=((j+1:Nat):Int):=(by rw [wrap_small _ (by omega) (by omega)];omega);clear hc hb yB hm0;go_wp2_with fail;refine gP.out.mono ?_;rintro e w1 ⟨rfl,m,rfl⟩;have jq:=qqh (HJ.out.drewN m);go_wp2_with fail;refine(rK _ _).mono ?_;rintro e w2 ⟨rfl,rfl⟩;by_cases dV:pO (pk L j)=true
 ·rw [dV];have hlt:j<L.length:=bB (fun e=>by rw [e]at dV;exact absurd dV (by decide));have c0:=jq.out.blk.cell 0;have c1:=jq.out.blk.cell 1;have f1:=jq.out.blk.frozen 1;have Ra:=jq.out.move (j:=j+1) (by omega);rw [show(((j+1:Nat)):Int)=(j:Int)+1 by omega]at Ra;have tj:=qqh Ra;clear Ra;go_wp2_with fail;refine⟨⟨j+1,by omega,HS.out.trans (dK hlt dV),tj.out,(HB.out.trans (bJ.drewN wr C m)).trans (bJ.set _ C 1 _)⟩,?_⟩;have e1:((wr.drewN m).setCell ⟨C,1,none⟩ (.int .i64 ((j:Int)+1))).cell? ⟨C,1,none⟩=some (.int .i64 ((j+1:Nat):Int)):=tj.out.blk.cell 1;have e2:wr.cell? ⟨C,1,none⟩=some (.int .i64 (j:Int)):=nT.out;rw [e1,e2];simp only [Int.toNat_natCast];omega
 rw [Bool.not_eq_true]at dV;rw [dV];go_wp2_with fail;go_end0;refine⟨rfl,?_,HB.out.trans (bJ.drewN wr C m)⟩;rw [HS.out,show aN L j=j from cI (fun _=>dV)];exact jq.out
def DP (r:Int):Prop:=r = -1∨Utf8.valid r=true
def qb:ByteArray:=⟨#[91,93,38,45,94,92,58,36,40,41,123,125,60,62,124,59,35,39,34,61,44]⟩
theorem Be (r:Int):(qb.data.toList.any fun b=>decide ((b.toNat:Int)=r))=qg.contains r:=by
 rw [Bool.eq_iff_iff];simp [qb,qg];omega
theorem nD (r:Int) (w:World) (hr:DP r) :
    Calls Tryz.prog 106 #[.int .i32 r] w fun e w'=>e=.returned (.bool (cU r))∧Below w.heap.size w w':=by
 have HS:=qqh (show Calls Tryz.prog 131 #[.string qb,.int .i32 r] w fun e w'=>e=.returned (.bool (qg.contains r))∧Below w.heap.size w w' by
  have:=oJ qb r w (by decide) (by decide) (by decide) hr;rw [Be]at this;exact this)
 clear hr;unfold cU;by_cases h0:0≤r
 ·have hd:decide (0≤r)=true:=decide_eq_true h0;rw [hd];cases hb:pO r
  ·go_enter Tryz.func106,Tryz.ntmps106;go_wp2_with fail;refine(rK _ _).mono ?_;rintro e w1 ⟨rfl,hw⟩;rw [hw,hb];go_wp2_with fail;refine HS.out.mono ?_;rintro e w2 ⟨rfl,aR⟩;go_wp2_with fail;go_ret;exact⟨by simp,aR⟩
  go_enter Tryz.func106,Tryz.ntmps106;go_wp2_with fail;refine(rK _ _).mono ?_;rintro e w1 ⟨rfl,hw⟩;rw [hw,hb];go_wp2_with fail;go_ret;exact⟨by simp,Below.refl _ _⟩
 have hd:decide (0≤r)=false:=decide_eq_false h0;rw [hd];go_enter Tryz.func106,Tryz.ntmps106;go_wp2_with fail;go_ret;exact⟨by simp,Below.refl _ _⟩
def fP (L:List Int):Prop:=∀ x∈L,Utf8.valid x=true
theorem fP.ok {L:List Int} (h:fP L):b8 L:=fun x hx=>by
 have:=h x hx;simp [Utf8.valid]at this;omega
theorem fP.pk {L:List Int} (h:fP L) (i:Nat):DP (pk L i):=by
 unfold Go.Proofs.YthgkedoildcbcaaGreatDoor.pk;cases hi:L[i]? with
 | none=>exact .inl rfl
 | some x=>exact .inr (h x (List.mem_of_getElem? hi))
theorem av.at {w:World} {C:Nat} {A:Option Addr} {n c:Nat} {L:List Int} {i:Nat} (h:av w C A n c L i) (h0:0<n) :
    ∃ b off,A=some ⟨b,off,none⟩∧b<w.heap.size∧∀ j x,L[j]? = some x→w.cell? ⟨b,off+j,none⟩=some (.int .i32 x):=by
 obtain⟨b,off,e,_,hb,hc⟩:=h.row.2 h0;exact⟨b,off,e,hb,fun j x hx=>hc j _ (by rw [ez,hx];rfl)⟩
theorem wu {w:World} {C:Nat} {b off n c:Nat} {L:List Int} {k:Nat} (h:av w C (some ⟨b,off,none⟩) n c L k) {i j:Nat} (hij:i≤j) (hj:j≤n) :
    (convert 26 9 (.slice (if c=i then some ⟨b,off,none⟩else some ⟨b,off+i,none⟩) (j - i) (c - i))).run Tryz.prog w=.ok (.string (runesBytes (aM L i j))) w:=by
 have hlen:=h.len;have hcap:=h.cap;by_cases hn:0<n
 ·obtain⟨b',off',e,_,hc⟩:=h.at hn;cases e;have key:∀ (o:Nat),o=off+i∨j - i=0→(convert 26 9 (.slice (some ⟨b,o,none⟩) (j - i) (c - i))).run Tryz.prog w=.ok (.string (runesBytes (aM L i j))) w:=by
   intro o ho;rcases ho with rfl | ho
   ·have:=run_convert_runes (P:=Tryz.prog) w 26 9 21 ⟨b,off+i,none⟩ (j - i) (c - i) (aM L i j) (by unfold aM;rw [List.length_take,List.length_drop];omega) Tryz.underlying26 Tryz.underlying21 Tryz.underlying9 (fun q hq=>by
     rw [gT,Nat.add_assoc];unfold aM at hq ⊢;rw [List.length_take,List.length_drop]at hq;refine hc (i+q) _ ?_;rw [List.getD_eq_getElem?_getD,List.getElem?_take_of_lt (by omega),List.getElem?_drop];rw [List.getElem?_eq_getElem (by omega)];rfl)
    rw [show(aM L i j).take (j - i)=aM L i j from List.take_of_length_le (by unfold aM;rw [List.length_take];omega)]at this;exact this
   have:=run_convert_runes (P:=Tryz.prog) w 26 9 21 ⟨b,o,none⟩ (j - i) (c - i) [] (by rw [ho];simp) Tryz.underlying26 Tryz.underlying21 Tryz.underlying9 (fun q hq=>by simp at hq);rw [show([]:List Int).take (j - i)=aM L i j by unfold aM;rw [ho];simp]at this;exact this
  split;exact key _ (.inr (by omega));exact key _ (.inl rfl)
 have:=run_convert_runes (P:=Tryz.prog) w 26 9 21 (if c=i then ⟨b,off,none⟩else ⟨b,off+i,none⟩) (j - i) (c - i) [] (by rw [show j - i=0 by omega];simp) Tryz.underlying26 Tryz.underlying21 Tryz.underlying9 (fun q hq=>by simp at hq);have e:(if c=i then some (⟨b,off,none⟩:Addr)else some ⟨b,off+i,none⟩)=some (if c=i then (⟨b,off,none⟩:Addr)else ⟨b,off+i,none⟩):=(by split <;> rfl);rw [show([]:List Int).take (j - i)=aM L i j by unfold aM;rw [show j - i=0 by omega];simp]at this;rw [e];exact this
def C7 (w:World) (C:Nat) (A:Option Addr) (n c:Nat) (L:List Int) (r:jN Int) (e:Ending) (w':World):Prop :=
  match r with
  | .ok (x,j)=>e=.returned (.int .i32 x)∧av w' C A n c L j∧bJ w C w'
  | .error (x,p)=>e=aS x p∧bJ w C w'
def Nd:ByteArray:=⟨#[48,49,50,51,52,53,54,55,56,57,97,98,99,100,101,102,65,66,67,68,69,70]⟩
theorem NM (r:Int):(Nd.data.toList.any fun b=>decide ((b.toNat:Int)=r))=eJ r:=by
 rw [Bool.eq_iff_iff];simp [Nd,eJ];omega
theorem AF (r:Int) (w:World) (hr:DP r) :
    Calls Tryz.prog 131 #[.string Nd,.int .i32 r] w fun e w'=>e=.returned (.bool (eJ r))∧Below w.heap.size w w':=by
 have:=oJ Nd r w (by decide) (by decide) (by decide) hr;rw [NM]at this;exact this
theorem av.below {w w':World} {C:Nat} {A:Option Addr} {n c:Nat} {L:List Int} {i:Nat} (h:av w C A n c L i) (hb:Below w.heap.size w w'):av w' C A n c L i :=
  ⟨h.blk.below hb h.blk.lt,h.row.keep (aa.any hb),h.size,h.le,h.cap⟩
theorem Ox {L:List Int} {i:Nat} {e:Int × Nat} (h:aQ L (i+1) 123=.error e):ki L i=.error e:=by unfold ki;rw [h]
theorem Gf {L:List Int} {i a r:Nat} (h:aQ L (i+1) 123=.ok a) (hr:r=aB eJ L a) (hb:r - a<1∨6<r - a):ki L i=.error (2,a):=by
 subst hr;unfold ki;rw [h];simp only;rw [if_pos hb]
theorem M9 {L:List Int} {i a r:Nat} {e:Int × Nat} (h:aQ L (i+1) 123=.ok a) (hr:r=aB eJ L a) (hb:¬(r - a<1∨6<r - a)) (h2:aQ L r 125=.error e):ki L i=.error e:=by
 subst hr;unfold ki;rw [h];simp only;rw [if_neg hb,h2]
theorem MX {L:List Int} {i a r k:Nat} (h:aQ L (i+1) 123=.ok a) (hr:r=aB eJ L a) (hb:¬(r - a<1∨6<r - a)) (h2:aQ L r 125=.ok k) (h3:1114111<dW (aM L a r)):ki L i=.error (3,i):=by
 subst hr;unfold ki;rw [h];simp only;rw [if_neg hb,h2];simp only;rw [if_pos h3]
theorem QL {L:List Int} {i a r k:Nat} (h:aQ L (i+1) 123=.ok a) (hr:r=aB eJ L a) (hb:¬(r - a<1∨6<r - a)) (h2:aQ L r 125=.ok k) (h3:¬ 1114111<dW (aM L a r)):ki L i=.ok (dW (aM L a r),k):=by
 subst hr;unfold ki;rw [h];simp only;rw [if_neg hb,h2];simp only;rw [if_neg h3]
def SY (w:World) (C:Nat) (A:Option Addr) (n c:Nat) (L:List Int) (a r:Nat) (wr:World):Prop :=
  ∃ j,a≤j∧j≤n∧r=aB eJ L j∧av wr C A n c L j∧bJ w C wr
theorem NX (w:World) (C:Nat) (A:Option Addr) (n c:Nat) (L:List Int) (i:Nat) (h:av w C A n c L i) (hL:fP L) (hi:i<n) :
    Calls Tryz.prog 133 #[.pointer (some ⟨C,0,none⟩)] w (C7 w C A n c L (ki L i)):=by
 have hs:=h.size;have hlen:=h.len;obtain⟨b,off,rfl,_,_⟩:=h.at (by omega);have HL:=qqh hL;have c0:=h.blk.cell 0;have c1:=h.blk.cell 1;have f1:=h.blk.frozen 1;have hw1:IntKind.i64.wrap ((i:Int)+1)=((i+1:Nat):Int):=(by rw [wrap_small _ (by omega) (by omega)];omega);have hm:=h.move (j:=i+1) (by omega);have RO:=bJ.set w C 1 (.int .i64 ((i+1:Nat):Int));rw [show(((i+1:Nat)):Int)=(i:Int)+1 by omega]at hm RO;have HM:=qqh hm;have bI:=qqh RO;clear hL hm h RO;obtain⟨R,hR⟩:∃ R,ki L i=R:=⟨_,rfl⟩;rw [hR];have fB:=qqh hR;clear hR;cases hn:aQ L (i+1) 123 with
 | error e0=>
  obtain⟨x,p⟩:=e0;have HN:=qqh (eS _ C _ n c L (i+1) 123 HM.out (by decide));rw [hn]at HN;go_enter Tryz.func133,Tryz.ntmps133;go_wp2_with fail;refine HN.out.mono ?_;rintro e w1 ⟨he,hb⟩;unfold aS at he;subst he;have su:=qqh (bI.out.trans hb);clear hb HN;go_wp2_with fail;rw [show R=_ from fB.out.symm.trans (Ox hn)];exact⟨rfl,rfl,su.out⟩
 | ok a=>
  have PU:=qqh hn;obtain⟨rfl,hpk⟩:=fF hn;have HN:=qqh (eS _ C _ n c L (i+1) 123 HM.out (by decide));rw [hn]at HN;have hi1:i+1<n:=(by rw [← hlen];exact bB (by rw [hpk];decide));clear hn;generalize ha:i+1+1=a at *;have wX:=qqh (vE eJ L a);generalize hr:aB eJ L a=r at *;have jd:=qqh hr.symm;clear hr;go_enter Tryz.func133,Tryz.ntmps133;go_wp2_with fail;refine HN.out.mono ?_;rintro e w1 ⟨rfl,hc,hb⟩;have HC:=qqh hc;have bw:=qqh (bI.out.trans hb);have g0:=hc.blk.cell 0;have g1:=hc.blk.cell 1;clear hb hc HN bI HM;go_wp2_with fail;go_loopw [25] (fun _ wr=>SY w C (some ⟨b,off,none⟩) n c L a r wr) (fun _ wr=>n - (match wr.cell? ⟨C,1,none⟩with | some (.int _ j)=>j.toNat | _=>0));(case atStart=>exact⟨a,Nat.le_refl _,HC.out.le,jd.out,HC.out,bw.out⟩);obtain⟨j,haj,hj,hrun,sY,zO⟩:=hrel;have HJ:=qqh sY;have HB:=qqh zO;have HR:=qqh hrun;have gP:=qqh (fun(W:World) (h:av W C (some ⟨b,off,none⟩) n c L j)=>lJ W C (some ⟨b,off,none⟩) n c L j h);have nT:=qqh (sY.blk.cell 1);have hok:=HL.out.pk j;have Jr:=qqh (fun(W:World)=>AF (pk L j) W hok);clear sY zO hrun;by_cases Dl:eJ (pk L j)=true
  ·rw [Dl]at Jr;have hlt:j<L.length:=bB (fun e=>by rw [e]at Dl;exact absurd Dl (by decide));have h0:0≤pk L j:=(nU (l:=[pk L j]) (by simpa using Dl) _ (by simp)).1;have hg:decide (0≤pk L j)=true:=decide_eq_true h0;have xP:IntKind.i64.wrap ((j:Int)+1)=((j+1:Nat):Int):=(by rw [wrap_small _ (by omega) (by omega)];omega);go_wp2_with fail;refine(gP.out _ HJ.out).mono ?_;rintro e w2 ⟨rfl,m,rfl⟩;go_wp2_with fail;refine(Jr.out _).mono ?_;rintro e w3 ⟨rfl,bL⟩;have lB:=qqh ((HJ.out.drewN m).below bL);have bF:=qqh ((HB.out.trans (bJ.drewN wr C m)).trans (bJ.below C bL));clear bL;go_wp2_with fail;refine(gP.out _ lB.out).mono ?_;rintro e w4 ⟨rfl,m2,rfl⟩;have jq:=qqh (lB.out.drewN m2);have d0:=jq.out.blk.cell 0;have d1:=jq.out.blk.cell 1;have f2:=jq.out.blk.frozen 1;have Ra:=jq.out.move (j:=j+1) (by omega);rw [show(((j+1:Nat)):Int)=(j:Int)+1 by omega]at Ra;have tj:=qqh Ra;clear Ra;go_wp2_with fail;refine⟨⟨j+1,by omega,by omega,HR.out.trans (dK hlt Dl),tj.out,(bF.out.trans (bJ.drewN w3 C m2)).trans (bJ.set _ C 1 _)⟩,?_⟩;have e1:((w3.drewN m2).setCell ⟨C,1,none⟩ (.int .i64 ((j:Int)+1))).cell? ⟨C,1,none⟩=some (.int .i64 ((j+1:Nat):Int)):=tj.out.blk.cell 1;have e2:wr.cell? ⟨C,1,none⟩=some (.int .i64 (j:Int)):=nT.out;rw [e1,e2];simp only [Int.toNat_natCast];omega
  rw [Bool.not_eq_true]at Dl;rw [Dl]at Jr;obtain rfl:r=j:=HR.out.trans (cI (fun _=>Dl));clear HR;go_wp2_with fail;refine(gP.out _ HJ.out).mono ?_;rintro e w2 ⟨rfl,m,rfl⟩;go_wp2_with fail;refine(Jr.out _).mono ?_;rintro e w3 ⟨rfl,bL⟩;have lB:=qqh ((HJ.out.drewN m).below bL);have bF:=qqh ((HB.out.trans (bJ.drewN wr C m)).trans (bJ.below C bL));clear bL;have d0:=lB.out.blk.cell 0;have d1:=lB.out.blk.cell 1;have q6:=fun q=>wu (lB.out.drewN q) haj hj;have hk1:(a:Int)≤(r:Int):=(by omega);have hk2:(r:Int)≤(c:Int):=(by have:=lB.out.cap;omega);have OY:(0:Int)≤(a:Int):=(by omega);have hds:∀ d∈aM L a r,eJ d=true:=(by rw [wX.out];exact oK _);have HDS:=qqh hds;have U5:(aM L a r).length=r - a:=(by unfold aM;rw [List.length_take,List.length_drop];omega);have hsz:(runesBytes (aM L a r)).size=r - a:=(by rw [tD (nU hds),U5]);have um:=qqh (eU (nU hds));generalize runesBytes (aM L a r)=s at *;clear hds;go_wp2_with fail;go_quiet (fail);have HJQ:=qqh (lB.out.drewN nq);have TT:=qqh (bF.out.trans (bJ.drewN w3 C nq));generalize w3.drewN nq=wq at HJQ TT ⊢;generalize (if c=a then some ({ block:=b,off:=off }:Addr)else some { block:=b,off:=off+a })=Z;clear q6 d0 d1 lB bF HJ HB nT hk1 hk2 OY;rcases (show r - a<1∨6<r - a∨(1≤r - a∧r - a≤6) by omega)with x8 | x8 | ⟨Np,Jn⟩
  ·have hz:s.size=0:=(by omega);have HF:=qqh (fun(W:World)=>bV 2 a W);go_wp2_with fail;refine(HF.out _).mono ?_;rintro e w5 ⟨rfl,rfl⟩;go_wp2_with fail;rw [show R=_ from fB.out.symm.trans (Gf PU.out jd.out (.inl x8))];exact⟨rfl,rfl,TT.out⟩
  ·have HF:=qqh (fun(W:World)=>bV 2 a W);have hq1:decide ((s.size:Int)<1)=false:=decide_eq_false (by omega);have F9:decide ((6:Int)<(s.size:Int))=true:=decide_eq_true (by omega);go_wp2_with fail;refine(HF.out _).mono ?_;rintro e w5 ⟨rfl,rfl⟩;go_wp2_with fail;rw [show R=_ from fB.out.symm.trans (Gf PU.out jd.out (.inr x8))];exact⟨rfl,rfl,TT.out⟩
  have hq1:decide ((s.size:Int)<1)=false:=decide_eq_false (by omega);have F9:decide ((6:Int)<(s.size:Int))=false:=decide_eq_false (by omega);have HN:=qqh (eS wq C _ n c L r 125 HJQ.out (by decide));have GJ:=qqh (show ¬(r - a<1∨6<r - a) by omega);cases hn2:aQ L r 125 with
  | error e0=>
   obtain⟨x,p⟩:=e0;rw [hn2]at HN;go_wp2_with fail;refine HN.out.mono ?_;rintro e w5 ⟨he,hb⟩;unfold aS at he;subst he;have su:=qqh (TT.out.trans hb);clear hb HN;go_wp2_with fail;rw [show R=_ from fB.out.symm.trans (M9 PU.out jd.out GJ.out hn2)];exact⟨rfl,rfl,su.out⟩
  | ok k=>
   rw [hn2]at HN;have FD:=qqh hn2;obtain⟨x0,x1⟩:=mq (l:=aM L a r) HDS.out (by omega);have HPI:=qqh (fun(W:World)=>ID s (aM L a r) W um.out HDS.out (by omega) (by omega));generalize hX:dW (aM L a r)=X at *;have N3:=qqh hX;clear hX hn2;go_wp2_with fail;refine HN.out.mono ?_;rintro e w5 ⟨rfl,lD,cY⟩;have tA:=qqh lD;have dN:=qqh (TT.out.trans cY);clear lD cY;go_wp2_with fail;refine(HPI.out _).mono ?_;rintro e w6 ⟨rfl,ek⟩;have Ip:=qqh (tA.out.below ek);have fC:=qqh (dN.out.trans (bJ.below C ek));clear ek;by_cases hbig:1114111<X
   ·have HF:=qqh (fun(W:World)=>bV 3 i W);go_wp2_with fail;refine(HF.out _).mono ?_;rintro e w7 ⟨rfl,rfl⟩;go_wp2_with fail;rw [show R=_ from fB.out.symm.trans (MX PU.out jd.out GJ.out FD.out (by rw [N3.out];exact hbig))];exact⟨rfl,rfl,fC.out⟩
   have hwx:IntKind.i32.wrap X=X:=IntWalk.i32_in _ (by omega);go_wp2_with fail;go_ret;rw [show R=_ from fB.out.symm.trans (QL PU.out jd.out GJ.out FD.out (by rw [N3.out];omega)),N3.out];exact⟨rfl,Ip.out,fC.out⟩
theorem BX {L:List Int} {i:Nat} (h:cU (pk L i)=true):cQ L i=.ok (pk L i,i+1):=by unfold cQ;rw [if_pos h]
theorem KU {L:List Int} {i:Nat} (h:cU (pk L i)=false) (h2:pk L i≠92):cQ L i=.error (2,i):=by unfold cQ;rw [if_neg (by rw [h];decide),if_pos h2]
theorem Gv {L:List Int} {i:Nat} (h2:pk L i=92):cQ L i=if pk L (i+1)=110 then .ok (10,i+2)
  else if pk L (i+1)=116 then .ok (9,i+2)
  else if pk L (i+1)=117 then ki L (i+1)
  else if pk L (i+1)<0∨EF (pk L (i+1))=true then .error (2,i+1)
  else .ok (pk L (i+1),i+2):=by
 unfold cQ;rw [if_neg (by rw [h2];decide),if_neg (by rw [h2];decide)]
theorem B7 (r:Int):EF r=true↔(48≤r∧r≤57)∨(97≤r∧r≤122)∨(65≤r∧r≤90):=by
 unfold EF;simp only [Bool.or_eq_true,Bool.and_eq_true,decide_eq_true_eq]
theorem av.step {w:World} {C:Nat} {A:Option Addr} {n c:Nat} {L:List Int} {i:Nat} (h:av w C A n c L i) (hi:i<n) :
    w.cell? ⟨C,1,none⟩=some (.int .i64 i)∧w.frozen? ⟨C,1,none⟩=false∧av (w.setCell ⟨C,1,none⟩ (.int .i64 ((i:Int)+1))) C A n c L (i+1)∧bJ w C (w.setCell ⟨C,1,none⟩ (.int .i64 ((i:Int)+1))):=by
 have hm:=h.move (j:=i+1) hi;rw [show(((i+1:Nat)):Int)=(i:Int)+1 by omega]at hm;exact⟨h.blk.cell 1,h.blk.frozen 1,hm,bJ.set w C 1 _⟩
theorem CR (w:World) (C:Nat) (A:Option Addr) (n c:Nat) (L:List Int) (i:Nat) (h:av w C A n c L i) (hL:fP L) :
    Calls Tryz.prog 111 #[.pointer (some ⟨C,0,none⟩)] w (C7 w C A n c L (cQ L i)):=by
 have hs:=h.size;have hlen:=h.len;have HL:=qqh hL;have HC:=qqh h;have gP:=qqh (fun(W:World) (k:Nat) (h:av W C A n c L k)=>lJ W C A n c L k h);have sC:=qqh (fun(W:World) (k:Nat)=>nD (pk L k) W (hL.pk k));have hw1:IntKind.i64.wrap ((i:Int)+1)=(i:Int)+1:=wrap_small _ (by have:=h.le;omega) (by have:=h.le;omega);have hle:=h.le;clear h hL;obtain⟨R,hR⟩:∃ R,cQ L i=R:=⟨_,rfl⟩;rw [hR];have fB:=qqh hR;clear hR;cases hp:cU (pk L i)with
 | true=>
  have hlt:i<L.length:=bB (fun e=>by rw [e]at hp;exact absurd hp (by decide));have iR:=qqh (show R=.ok (pk L i,i+1) from fB.out.symm.trans (BX hp));have Lc:=qqh (fun(W:World)=>show Calls Tryz.prog 106 #[.int .i32 (pk L i)] W fun e w'=>e=.returned (.bool true)∧Below W.heap.size W w' by have:=sC.out W i;rwa [hp]at this);clear hp;go_enter Tryz.func111,Tryz.ntmps111;go_wp2_with fail;refine(gP.out _ _ HC.out).mono ?_;rintro e w1 ⟨rfl,m,rfl⟩;go_wp2_with fail;refine(Lc.out _).mono ?_;rintro e w2 ⟨rfl,hb⟩;have mB:=qqh ((HC.out.drewN m).below hb);have bw:=qqh ((bJ.drewN w C m).trans (bJ.below C hb));clear hb;obtain⟨d1,d2,d3,d4⟩:=mB.out.step (by omega);have og:=qqh d3;have bF:=qqh (bw.out.trans d4);clear d3 d4;go_wp2_with fail;go_ret;rw [iR.out];exact⟨rfl,og.out,bF.out⟩
 | false=>
  have Lc:=qqh (fun(W:World)=>show Calls Tryz.prog 106 #[.int .i32 (pk L i)] W fun e w'=>e=.returned (.bool false)∧Below W.heap.size W w' by have:=sC.out W i;rwa [hp]at this);by_cases wO:pk L i=92
  ·have hlt:i<L.length:=bB (by omega);have AU:=qqh (fB.out.symm.trans (Gv wO));have rL:=qqh (fun(W:World) (h:av W C A n c L i)=>show Calls Tryz.prog 34 #[.pointer (some ⟨C,0,none⟩)] W fun e w'=>e=.returned (.int .i32 92)∧∃ m,w'=W.drewN m by have:=gP.out W i h;rwa [wO]at this);rw [wO]at Lc;clear hp wO;go_enter Tryz.func111,Tryz.ntmps111;go_wp2_with fail;refine(rL.out _ HC.out).mono ?_;rintro e w1 ⟨rfl,m,rfl⟩;go_wp2_with fail;refine(Lc.out _).mono ?_;rintro e w2 ⟨rfl,hb⟩;have mB:=qqh ((HC.out.drewN m).below hb);have bw:=qqh ((bJ.drewN w C m).trans (bJ.below C hb));clear hb;obtain⟨d1,d2,d3,d4⟩:=mB.out.step (by omega);have og:=qqh d3;have bF:=qqh (bw.out.trans d4);clear d3 d4;go_wp2_with fail;refine(gP.out _ _ og.out).mono ?_;rintro e w3 ⟨rfl,m3,Bb⟩;have Cs:=qqh (og.out.drewN m3);have dP:=qqh (bF.out.trans (bJ.drewN _ C m3));rw [← Bb]at Cs dP;clear Bb d1 d2;have xP:IntKind.i64.wrap ((i:Int)+1+1)=(i:Int)+1+1:=wrap_small _ (by omega) (by omega);have X6:=vF HL.out.ok (i+1);have Jr:=qqh (fun(W:World) (hc:av W C A n c L (i+1)) (hlt:i+1<n)=>NX W C A n c L (i+1) hc HL.out hlt);have hcast:((i+1:Nat):Int)=(i:Int)+1:=(by omega);generalize hr:pk L (i+1)=r at *;by_cases h1:r=110
   ·subst h1;have hlt2:i+1<n:=(by rw [← hlen];exact bB (by omega));have iR:=qqh (show R=.ok (10,i+2) from AU.out);obtain⟨d1,d2,d3,d4⟩:=Cs.out.step hlt2;rw [hcast]at d1 d3 d4;have tA:=qqh d3;have dN:=qqh (dP.out.trans d4);clear d3 d4 AU hr;go_wp2_with fail;go_ret;rw [iR.out];exact⟨rfl,tA.out,dN.out⟩
   by_cases h2:r=116
   ·subst h2;have hlt2:i+1<n:=(by rw [← hlen];exact bB (by omega));have iR:=qqh (show R=.ok (9,i+2) from AU.out);obtain⟨d1,d2,d3,d4⟩:=Cs.out.step hlt2;rw [hcast]at d1 d3 d4;have tA:=qqh d3;have dN:=qqh (dP.out.trans d4);clear d3 d4 AU hr;go_wp2_with fail;go_ret;rw [iR.out];exact⟨rfl,tA.out,dN.out⟩
   by_cases h3:r=117
   ·subst h3;have hlt2:i+1<n:=(by rw [← hlen];exact bB (by omega));have iR:=qqh (show R=ki L (i+1) from AU.out);have HX:=qqh (Jr.out _ Cs.out hlt2);clear AU hr Jr;cases hx:ki L (i+1)with
    | error e0=>
     obtain⟨x,p⟩:=e0;rw [hx]at HX;have iT:=qqh (iR.out.trans hx);clear hx;go_wp2_with fail;refine HX.out.mono ?_;rintro e w5 ⟨he,hb⟩;unfold aS at he;subst he;have dN:=qqh (dP.out.trans hb);clear hb;go_wp2_with fail;rw [iT.out];exact⟨rfl,rfl,dN.out⟩
    | ok q=>
     obtain⟨x,p⟩:=q;rw [hx]at HX;have iT:=qqh (iR.out.trans hx);clear hx;go_wp2_with fail;refine HX.out.mono ?_;rintro e w5 ⟨rfl,hc,hb⟩;have tA:=qqh hc;have dN:=qqh (dP.out.trans hb);clear hb hc;go_wp2_with fail;go_ret;rw [iT.out];exact⟨rfl,tA.out,dN.out⟩
   have Ni:=qqh (show R=if r<0∨EF r=true then .error (2,i+1)else .ok (r,i+2) by rw [AU.out,if_neg h1,if_neg h2,if_neg h3]);have q1:(r == 110)=false:=(by simp;exact h1);have q2:(r == 116)=false:=(by simp;exact h2);have q3:(r == 117)=false:=(by simp;exact h3);clear AU h1 h2 h3 Jr;by_cases x8:r<0∨EF r=true
   ·have iR:=qqh (show R=.error (2,i+1) by rw [Ni.out,if_pos x8]);have d1:=Cs.out.blk.cell 1;have hcell:w3.cell? ⟨C,1,none⟩=some (.int .i64 ((i:Int)+1)):=(by rw [← hcast];exact d1);have HF:=qqh (fun(W:World)=>bV 2 ((i:Int)+1) W);rw [B7]at x8;clear Ni d1;rcases (show r<0∨(48≤r∧r≤57)∨(97≤r∧r≤122)∨(65≤r∧r≤90) by omega)with h1 | ⟨h1,h2⟩ | ⟨h1,h2⟩ | ⟨h1,h2⟩
    all_goals
      clear x8
      go_wp2_with fail
      refine(HF.out _).mono ?_
      rintro e w5 ⟨rfl,rfl⟩
      go_wp2_with fail
      rw [iR.out]
      exact⟨rfl,by rw [aS,hcast],dP.out⟩
   have iR:=qqh (show R=.ok (r,i+2) by rw [Ni.out,if_neg x8]);rw [B7]at x8;have hlt2:i+1<n:=(by rw [← hlen];exact bB (by omega));obtain⟨d1,d2,d3,d4⟩:=Cs.out.step hlt2;rw [hcast]at d1 d3 d4;have tA:=qqh d3;have dN:=qqh (dP.out.trans d4);clear d3 d4 Ni hr;rcases (show(0≤r∧r<48)∨(57<r∧r<65)∨(90<r∧r<97)∨122<r by omega)with ⟨h1,h2⟩ | ⟨h1,h2⟩ | ⟨h1,h2⟩ | h1
   all_goals
     clear x8
     go_wp2_with fail
     go_ret
     rw [iR.out]
     exact⟨rfl,tA.out,dN.out⟩
  have iR:=qqh (show R=.error (2,i) from fB.out.symm.trans (KU hp wO));have aef:(pk L i != 92)=true:=(by simp [wO]);clear hp;go_enter Tryz.func111,Tryz.ntmps111;go_wp2_with fail;refine(gP.out _ _ HC.out).mono ?_;rintro e w1 ⟨rfl,m,rfl⟩;go_wp2_with fail;refine(Lc.out _).mono ?_;rintro e w2 ⟨rfl,hb⟩;have mB:=qqh ((HC.out.drewN m).below hb);have bw:=qqh ((bJ.drewN w C m).trans (bJ.below C hb));clear hb;have d1:=mB.out.blk.cell 1;go_wp2_with fail;refine(bV 2 i _).mono ?_;rintro e w3 ⟨rfl,rfl⟩;go_wp2_with fail;rw [iR.out];exact⟨rfl,rfl,bw.out⟩
theorem CP (W:World) (v:Value):(Instr.typeAssert (.iface 124 v) 20 124 true).run Tryz.prog W=.ok (.tuple #[v,.bool true]) W:=by kernel_rfl
theorem CF (f:Addr) (w:World) :
    CallsD Tryz.prog 31 #[.pointer (some f)] .returning w fun e u' w'=>e=.returned (.tuple #[])∧u'=.returning∧w'=w:=by
 refine callsD_of_wpS Tryz.func31 rfl fun c₀ cs hu=>?_;apply wpS_seq;apply wpS_region;simp [wpOpsS,go_sem,recoverD,hu,Tryz.ntmps31,Exit.thenS];refine wpS_of_wp ?_;go_wp2_with fail;cases c₀;simp_all [bodyPostS,results,Tryz.results31]
theorem xZ (f:Nat) (x p a b:Int) (t:TypeId) (older:List PanicEntry) (w:World) (hf:ai w f t #[.int .i64 a,.int .i64 b]) :
    CallsD Tryz.prog 31 #[.pointer (some ⟨f,0,none⟩)] (.panicking ({ v:=.iface 124 (.agg #[.int .i64 x,.int .i64 p]),recovered:=false } :: older)) w fun e u' w'=>
      e=.returned (.tuple #[])∧u'=.panicking ({ v:=.iface 124 (.agg #[.int .i64 x,.int .i64 p]),recovered:=true } :: older)∧ai w' f t #[.int .i64 x,.int .i64 p]∧bJ w f w':=by
 have f0:=hf.frozen 0;have f1:=hf.frozen 1;have c0:=hf.cell 0;have c1:=hf.cell 1;refine callsD_of_wpS Tryz.func31 rfl fun c₀ cs hu=>?_;apply wpS_seq;apply wpS_region;simp [wpOpsS,go_sem,recoverD,hu,Tryz.ntmps31,Exit.thenS];refine wpS_of_wp ?_;have e (V:Value):(#[Value.pointer (some ⟨f,0,none⟩)]++(Array.replicate 14 undef).setIfInBounds 4 V) = #[.pointer (some ⟨f,0,none⟩),undef,undef,undef,undef,V,undef,undef,undef,undef,undef,undef,undef,undef,undef]:=rfl;rw [e];have hlt:=hf.lt;have hta:=fun(W:World) (v:Value)=>CP W v;go_wp2_with fail;have hB:ai (((w.setCell ⟨f,0,none⟩ (.int .i64 x)).setCell ⟨f,1,none⟩ (.int .i64 p)).alloc (.cells #[.int .i64 x,.int .i64 p] 124)) f t #[.int .i64 x,.int .i64 p]:=((hf.put 0 _).put 1 _).alloc _;have hS:bJ w f (((w.setCell ⟨f,0,none⟩ (.int .i64 x)).setCell ⟨f,1,none⟩ (.int .i64 p)).alloc (.cells #[.int .i64 x,.int .i64 p] 124)):=((bJ.set w f 0 _).trans (bJ.set _ f 1 _)).trans (bJ.below f ((Below.refl _ _).alloc (Nat.le_refl _) _));simp [bodyPostS,results,Tryz.results31,hB,hS]
end Go.Proofs.YthgkedoildcbcaaGreatDoor
