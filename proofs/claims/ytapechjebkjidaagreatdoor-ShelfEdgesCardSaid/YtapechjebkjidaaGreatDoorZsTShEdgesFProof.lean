/- ShelfEdges: edges takes the blanks at the beginning away, and one at the end. Condition: Go's own variables are as their text lays them. -/
import Derived.Test.YtapechjebkjidaaGreatDoorCards
import Derived.Test.YtapechjebkjidaaGreatDoorRows
import Derived.Test.YtapechjebkjidaaGreatDoorShEdgesJ
import Derived.Test.YtapechjebkjidaaGreatDoorTie
import Derived.Test.YtapechjebkjidaaGreatDoorZs17
import Derived.Test.YtapechjebkjidaaGreatDoorZs2
import Derived.Test.YtapechjebkjidaaGreatDoorZs20
import Derived.Test.YtapechjebkjidaaGreatDoorZs3
import Derived.Test.YtapechjebkjidaaGreatDoorZs32
import Derived.Test.YtapechjebkjidaaGreatDoorZs45
import Derived.Test.YtapechjebkjidaaGreatDoorZs5
set_option maxHeartbeats 3200000
set_option maxRecDepth 100000
namespace Go.Proofs.YtapechjebkjidaaGreatDoor
open Go.RowKit
/-! ### edges -/
def edgA:au:=⟨true,false,[],[[(32,32)]],[],[],0⟩
def edgB:au:=⟨false,true,[],[[(32,32)]],[],[],0⟩
def edgesR:List au:=[edgA,edgB]
/-- Without the blanks at its beginning. -/
def trimL:List Int→List Int
  | []=>[]
  | x::t=>if x=32 then trimL t else x::t
/-- Without one blank at its end. -/
def cutLast:List Int→List Int
  | []=>[]
  | [x]=>if x=32 then []else [x]
  | x::y::t=>x::cutLast (y::t)
theorem edgA_here (A Z:List Int) (z:Int):bU edgA (A++z::Z) A.length=(decide (z=32) && decide (A.length=0)):=by
 rw [lK];simp only [edgA,List.length_nil,Nat.zero_le,decide_true,bJ,oc,Bool.true_and,Bool.and_true,Bool.false_and,Bool.not_false];simp
theorem edgB_here (A Z:List Int) (z:Int):bU edgB (A++z::Z) A.length=(decide (z=32) && decide (Z = [])):=by
 rw [lK];simp only [edgB,List.length_nil,Nat.zero_le,decide_true,bJ,oc,Bool.and_true,Bool.false_and,Bool.not_false,Bool.true_and,List.length_cons];congr 1;cases Z <;> simp
theorem edges_in:∀ (f:Nat) (Z A:List Int),Z.length≤f→A ≠ []→cP edgesR f A Z=A++cutLast Z:=by
 intro f;induction f with
 | zero=>intro Z A h _;cases Z with | nil=>simp [cP,cutLast] | cons z Z=>simp at h
 | succ f ih=>
  intro Z A h hA;cases Z with
  | nil=>simp [cP,cutLast]
  | cons z Z=>
   simp only [List.length_cons]at h;have hl:decide (A.length=0)=false:=(by rw [decide_eq_false_iff_not,List.length_eq_zero_iff];exact hA);by_cases hz:z=32∧Z = []
   ·obtain⟨rfl,rfl⟩:=hz;rw [iC (r:=edgB) (by rw [edgesR,List.find?_cons,edgA_here,hl,List.find?_cons,edgB_here];rfl) rfl];simp [AK,cutLast,edgB]
   have e2:(decide (z=32) && decide (Z = []))=false:=by
    rw [Bool.eq_false_iff];intro e;rw [Bool.and_eq_true,decide_eq_true_eq,decide_eq_true_eq]at e;exact hz e
   rw [ny (by rw [edgesR,List.find?_cons,edgA_here,hl,Bool.and_false,List.find?_cons,edgB_here,e2];rfl),ih _ _ (by omega) (by simp)];cases Z with
   | nil=>simp only [and_true]at hz;simp [cutLast,if_neg hz]
   | cons y t=>simp [cutLast]
theorem edges_law:∀ (f:Nat) (Z:List Int),Z.length≤f→cP edgesR f [] Z=cutLast (trimL Z):=by
 intro f;induction f with
 | zero=>intro Z h;cases Z with | nil=>rfl | cons z Z=>simp at h
 | succ f ih=>
  intro Z h;cases Z with
  | nil=>rfl
  | cons z Z=>
   simp only [List.length_cons]at h;rw [trimL];by_cases hz:z=32
   ·subst hz;rw [if_pos rfl,iC (r:=edgA) (by rw [edgesR,List.find?_cons,edgA_here];rfl) rfl];exact ih Z (by omega)
   rw [if_neg hz,ny (by rw [edgesR,List.find?_cons,edgA_here,List.find?_cons,edgB_here,decide_eq_false hz];rfl)];have:=edges_in f Z [z] (by omega) (by simp);rw [List.nil_append,this];cases Z with
   | nil=>simp [cutLast,if_neg hz]
   | cons y t=>simp [cutLast]
end Go.Proofs.YtapechjebkjidaaGreatDoor
namespace Go.Proofs.YtapechjebkjidaaGreatDoor
open Go.RowKit
def Lm (w:World) (l:List Int) (n:Nat) (v i:Value) (wr:World):Prop :=
  ∃ k:Nat,k≤n∧i=.int .i64 k∧(l.take k).all aK=true∧tD wr w.heap.size v (bytesOf (l.take k))∧Below w.heap.size w wr
theorem qj (l:List Int) (k:Nat) (r:Int) (h:l[k]? = some r):bytesOf (l.take (k+1))=bytesOf (l.take k)++Lib.encodeRune r:=by
 obtain⟨hk,rfl⟩:=List.getElem?_eq_some_iff.1 h;rw [List.take_succ_eq_append_getElem hk];simp only [bytesOf,List.flatMap_append,List.flatMap_cons,List.flatMap_nil,List.append_nil]
theorem qg (l:List UInt8):∀ u∈Lib.byteCells l,u.oneCell'=true:=by
 intro u hu;simp only [Lib.byteCells,List.mem_map]at hu;obtain⟨k,_,rfl⟩:=hu;rfl
theorem R8 (r:Int):(Lib.encodeRune r).length≤4:=by
 rw [← Lib.runeCells_length];exact(Lib.runeCells_le r).2
theorem Hf (A:Option Addr) (n c:Nat) (l:List Int) (w:World) (hn:n≤1099511627776) (hl:uD w w.heap.size A n l) :
    Calls Tryz.prog 24 #[.slice A n c] w fun e w'=>e=.returned (.tuple #[.string (oG l).1,.int .i64 (oG l).2])∧Below w.heap.size w w':=by
 obtain⟨i0,hi,hz0,rj,sY⟩:=info_parts Tryz.info5;have hlen:=hl.len;have HL:=Lib.hid hlen;clear hlen;have HR:=Lib.hid hl;clear hl;go_enter Tryz.func24,Tryz.ntmps24;go_wp2;go_loopw [4,9] (Lm w l n) (fun _ i _=>n - (intOf i).toNat);(case atStart=>exact⟨0,Nat.zero_le _,rfl,rfl,tD.nil _ _,Below.refl _ _⟩);obtain⟨k,hk,rfl,hall,hB,hb⟩:=hrel;have hz:=hb.size;by_cases hlt:k<n
 ·obtain⟨b,off,rfl,dL,hc0⟩:=HR.out.at hlt;obtain⟨r,hr⟩:∃ r,l[k]? = some r:=⟨_,List.getElem?_eq_getElem (by rw [HL.out];exact hlt)⟩;rw [List.getD,hr,Option.getD_some]at hc0;have hc1:=(hb.cell (p:=⟨b,off+k,none⟩) dL).trans hc0;clear hc0;have eO:=lH (l.take k);have htk:(l.take k).length≤k:=List.length_take_le _ _;have HB:=Lib.hid hB;have HA:=Lib.hid hall;have Q4:=Lib.hid hr;clear hB hall hr;cases hrb:aK r
  ·have hno:=Ol l k r Q4.out hrb;have HN:=Lib.hid (show oG l=(⟨#[]⟩,3) by unfold oG;rw [hno];rfl);clear hno;go_wp2_with (go_at_call 33;refine(pg _ _).mono ?_;rintro e w' ⟨rfl,rfl⟩);go_ret2;rw [HN.out];exact⟨rfl,hb⟩
  have hel:=R8 r;go_wp2_with (go_at_call 33;refine(pg _ _).mono ?_;rintro e w' ⟨rfl,rfl⟩);refine(Ak r hrb wr).mono ?_;rintro e w2 ⟨v2,rfl,ng,aL⟩;have bQ:=hb.trans (aL.mono hz);have Ye:=bQ.size;have OZ:tD w2 w.heap.size _ (bytesOf (l.take k)):=cS HB.out aL;obtain⟨A4,c4,rfl,_⟩:=aH OZ;obtain⟨A2,c2,rfl,_⟩:=aH ng;have hrd:Rd w2 w2.heap.size 1 A2 (Lib.encodeRune r).length (Lib.byteCells (Lib.encodeRune r)):=Rd.cj ng;have qn:=Lib.hid hrd;have aW:=Lib.hid OZ;clear hrd OZ ng HB;go_wp2_with (at_builtin;refine ai _ rfl (.tmp 16) (.tmp 18) 39 rfl w.heap.size 5 i0 _ 1 1 Tryz.underlying39 hi hz0 rj sY rfl (by decide) _ _ _ rfl aW.out w2.heap.size A2 (Lib.encodeRune r).length c2 (Lib.byteCells (Lib.encodeRune r)) rfl qn.out (qg _) (by simp only [maxLen];omega) (by omega) (by omega) ?_);intro v4 w3 an;have hB3:tD w3 w.heap.size v4 (bytesOf (l.take (k+1))):=tD.of an (by rw [qj l k r Q4.out];simp) (by rw [qj l k r Q4.out,byteCells_append]);have hb4:Below w.heap.size w w3:=bQ.trans (an.below (by omega) aW.out);have DC:=yA l k r Q4.out;rw [HA.out,hrb]at DC;clear an;go_wp2_with fail;exact⟨⟨k+1,by omega,by go_num,by simpa using DC,hB3,hb4⟩,by simp [intOf];omega⟩
 obtain rfl:k=n:=(by omega);rw [List.take_of_length_le (by rw [HL.out];omega)]at hall hB;have HE:=Lib.hid (show oG l=(⟨(bytesOf l).toArray⟩,0) by unfold oG;rw [hall];rfl);clear hall;have HB:=Lib.hid hB;obtain⟨A4,c4,rfl,_⟩:=aH hB;have sZ:=jh HB.out rfl;clear hB;go_wp2_with fail;go_ret2;rw [HE.out];exact⟨rfl,hb⟩
end Go.Proofs.YtapechjebkjidaaGreatDoor
namespace Go.Proofs.YtapechjebkjidaaGreatDoor
open Go.RowKit Go.Shelf
def edgesB:ByteArray:=⟨#[101,100,103,101,115]⟩
theorem edges_file:mc edgesB 6 (ji edgesR):=⟨by decide,by kernel_rfl,by kernel_rfl,by kernel_rfl,by kernel_rfl,by kernel_rfl,by kernel_rfl⟩
theorem edges_rules:nE edgesR 1:=⟨by unfold zc;decide,by decide,by decide,by kernel_rfl,by kernel_rfl,by kernel_rfl,by kernel_rfl⟩
theorem edges_turn (s:ByteArray) (hs:(ay s 0).length≤1000) (nN:s.size≤100000) (w:World):Calls Tryz.prog 30 #[.string edgesB,.bool false,.string s] w (iq w (cutLast (trimL (ay s 0)))) :=
  iE edges_file edges_rules s hs nN _ (fun f h=>edges_law f _ h) w
theorem trim_drop (L:List Int):∃ k,k≤L.length∧trimL L=L.drop k:=by
 induction L with
 | nil=>exact⟨0,Nat.le_refl _,rfl⟩
 | cons a l ih=>
  rw [trimL];split
  ·obtain⟨k,h1,h2⟩:=ih;exact⟨k+1,by simpa using h1,by rw [h2];rfl⟩
  exact⟨0,Nat.zero_le _,rfl⟩
theorem cut_snoc (L:List Int) (x:Int):cutLast (L++[x])=if x=32 then L else L++[x]:=by
 induction L with
 | nil=>rw [List.nil_append,cutLast]
 | cons a l ih=>
  cases l with
  | nil=>rw [List.cons_append,List.nil_append,cutLast,cutLast];split <;> rfl
  | cons b l=>rw [List.cons_append,List.cons_append,cutLast,← List.cons_append,ih];split <;> rfl
def EgRel (w:World) (L:List Int) (l:Value) (wr:World):Prop :=
  ∃ (k m c:Nat) (A:Option Addr),L.length=k+m∧m≤c∧l=.slice A m c∧uD w w.heap.size A m (L.drop k)∧trimL (L.drop k)=trimL L∧Below w.heap.size w wr
theorem shelf_edges (s:ByteArray) (w:World):Calls Tryz.prog 6 #[.string s] w fun e w'=>e=.returned (.bool true)∧Below w.heap.size w w':=by
 by_cases hs:s.size≤1000
 ·have FQ:=cZ s;have LD:=Lib.hid (fA s);have GN:=Lib.hid (jj s w (by omega));have NW:=Lib.hid (fun(W:World)=>iM edgesB s _ (fun W=>edges_turn s (by omega) (by omega) W) W);have nO:=Lib.hid (fu s w);rw [decide_eq_true (show(s.size:Int)≤1000 by omega)]at nO;have OI:(ay s 0).length≤1000:=(by omega);generalize ay s 0=L at *;clear hs FQ;go_enter Tryz.func6,Tryz.ntmps6;go_wp2_with fail;refine nO.out.mono ?_;rintro e w0 ⟨rfl,rfl⟩;go_wp2_with fail;refine GN.out.mono ?_;rintro e w1 ⟨⟨v,rfl,ho⟩,aT⟩;obtain⟨A,cp,rfl,hcp⟩:=aH ho;have HL:=Lib.hid (Rd.cj ho);have bT:=Lib.hid aT;clear ho aT;go_wp2_with fail;go_loopw [3] (EgRel w1 L) (fun l _=>match l with | .slice _ m _=>m | _=>0);(case atStart=>exact⟨0,L.length,cp,A,by omega,hcp,rfl,HL.out,rfl,Below.refl _ _⟩);obtain⟨k,m,c,A2,hkm,hmc,rfl,hrd,htr,hb⟩:=hrel;have HR:=Lib.hid hrd;have HT:=Lib.hid htr;have HB:=Lib.hid hb;have hml:=hrd.len;clear hrd htr;have Fg:=Lib.hid (fun(A:Option Addr) (n c:Nat) (l:List Int) (W:World) (hn:n≤1000) (hr:l.all aK=true) (hl:uD W W.heap.size A n l)=>show Calls Tryz.prog 24 #[.slice A n c] W fun e w'=>e=.returned (.tuple #[.string (pz l),.int .i64 0])∧Below W.heap.size W w' by
   have h:=Hf A n c l W (by omega) hl;rwa [IL hr]at h)
  have vw:=DK k LD.out;have hm1:m≤1000:=(by omega);by_cases hm0:m=0
  ·subst hm0;have HE:=Lib.hid (show cutLast (trimL L) = [] by rw [← HT.out,List.eq_nil_of_length_eq_zero hml];rfl);rw [HE.out]at NW;have HENC:=Fg.out A2 0 c [] wr (Nat.zero_le _) rfl Rd.nil;clear hb Fg;go_wp2_with fail;refine(HENC).mono ?_;rintro e w3 ⟨rfl,bQ⟩;have bW:=Lib.hid (HB.out.trans (bQ.mono HB.out.size));clear bQ;go_wp2_with fail;refine(NW.out w3).mono ?_;rintro e w4 ⟨rfl,hb4⟩;have eM:=Lib.hid (bT.out.trans ((bW.out.trans (hb4.mono bW.out.size)).mono bT.out.size));clear hb4;go_wp2_with fail;go_ret;exact⟨rfl,eM.out⟩
  obtain⟨b,off,rfl,dL,hcells⟩:=HR.out.2 (by omega);obtain⟨x,hx⟩:∃ x,L[k]? = some x:=⟨_,List.getElem?_eq_getElem (by omega)⟩;have d0:wr.cell? ⟨b,off,none⟩=some (.int .i32 x):=(hb.cell (p:=⟨b,off,none⟩) dL).trans (hcells 0 _ (by rw [bC,drop_cons hx];rfl));by_cases hx32:x=32
  ·subst hx32;obtain⟨m,rfl⟩:∃ q,m=q+1:=⟨m - 1,by omega⟩;have mq:=Lib.hid (show uD w1 w1.heap.size (if c=1 then some ⟨b,off,none⟩else some ⟨b,off+1,none⟩) m (L.drop (k+1)) from by
    refine⟨by rw [runeCells_length,List.length_drop];omega,fun hm=>⟨b,off+1,by rw [if_neg (by omega)],dL,fun j u hu=>?_⟩⟩;have h:=hcells (j+1) u (by rw [drop_cons hx];exact hu);rwa [show off+(j+1)=off+1+j by omega]at h)
   have Mv:=Lib.hid (show trimL (L.drop (k+1))=trimL L by rw [← HT.out,drop_cons hx,trimL,if_pos rfl]);clear hcells hb hx Fg;go_wp2_with fail;exact⟨⟨k+1,m,c - 1,_,by omega,by omega,rfl,mq.out,Mv.out,HB.out⟩,Nat.lt_succ_self _⟩
  have q0:(x == 32)=false:=(by rw [beq_eq_false_iff_ne];exact hx32);have hM:trimL L=L.drop k:=(by rw [← HT.out,drop_cons hx,trimL,if_neg hx32]);obtain⟨q,rfl⟩:∃ q,m=q+1:=⟨m - 1,by omega⟩;obtain⟨M0,y,hMy⟩:∃ M0 y,L.drop k=M0++[y]:=by
   rcases List.eq_nil_or_concat (L.drop k)with h | ⟨i,y,h⟩
   ·rw [h]at hml;simp at hml
   exact⟨i,y,by rw [h,List.concat_eq_append]⟩
  have hq:M0.length=q:=(by rw [hMy]at hml;simp at hml;omega);have d1:wr.cell? ⟨b,off+q,none⟩=some (.int .i32 y):=(hb.cell (p:=⟨b,off+q,none⟩) dL).trans (hcells q _ (by rw [bC,hMy,List.getElem?_append_right (by omega),hq,Nat.sub_self];rfl));have hwp:IntKind.i64.wrap (((q+1:Nat):Int) - 1)=(q:Int):=(by rw [wrap_small _ (by omega) (by omega)];omega);have hk0:(0:Int)≤(q:Int):=(by omega);have hk1:(q:Int)<((q+1:Nat):Int):=(by omega);have hRL:=HR.out;rw [hMy]at hRL vw;by_cases hy:y=32
  ·subst hy;have HE:=Lib.hid (show cutLast (trimL L)=M0 by rw [hM,hMy,cut_snoc,if_pos rfl]);rw [HE.out]at NW;have hRd:uD wr wr.heap.size (some ⟨b,off,none⟩) q M0:=⟨by rw [runeCells_length];omega,fun hm=>⟨b,off,rfl,Nat.lt_of_lt_of_le dL hb.size,fun j u hu=>(hb.cell (p:=⟨b,off+j,none⟩) dL).trans (hcells j u (by rw [hMy,bC,List.getElem?_append_left (by have:=(List.getElem?_eq_some_iff.1 hu).1;rw [runeCells_length]at this;omega),← bC];exact hu))⟩⟩;have HENC:=Fg.out (some ⟨b,off,none⟩) q c M0 wr (by omega) (by rw [List.all_append,Bool.and_eq_true]at vw;exact vw.1) hRd;clear hb Fg hx hM hMy hRL hRd hcells hq;go_wp2_with fail;refine(HENC).mono ?_;rintro e w3 ⟨rfl,bQ⟩;have bW:=Lib.hid (HB.out.trans (bQ.mono HB.out.size));clear bQ;go_wp2_with fail;refine(NW.out w3).mono ?_;rintro e w4 ⟨rfl,hb4⟩;have eM:=Lib.hid (bT.out.trans ((bW.out.trans (hb4.mono bW.out.size)).mono bT.out.size));clear hb4;go_wp2_with fail;go_ret;exact⟨rfl,eM.out⟩
  have q1:(y == 32)=false:=(by rw [beq_eq_false_iff_ne];exact hy);have HE:=Lib.hid (show cutLast (trimL L)=M0++[y] by rw [hM,hMy,cut_snoc,if_neg hy]);rw [HE.out]at NW;have HENC:=Fg.out (some ⟨b,off,none⟩) (q+1) c (M0++[y]) wr hm1 vw ((Rd.below hRL hb).more hb.size);clear hb Fg hx hM hMy hRL hcells hq;go_wp2_with fail;refine(HENC).mono ?_;rintro e w3 ⟨rfl,bQ⟩;have bW:=Lib.hid (HB.out.trans (bQ.mono HB.out.size));clear bQ;go_wp2_with fail;refine(NW.out w3).mono ?_;rintro e w4 ⟨rfl,hb4⟩;have eM:=Lib.hid (bT.out.trans ((bW.out.trans (hb4.mono bW.out.size)).mono bT.out.size));clear hb4;go_wp2_with fail;go_ret;exact⟨rfl,eM.out⟩
 have nO:=Lib.hid (fu s w);rw [decide_eq_false (show ¬(s.size:Int)≤1000 by omega)]at nO;clear hs;go_enter Tryz.func6,Tryz.ntmps6;go_wp2_with fail;refine nO.out.mono ?_;rintro e w0 ⟨rfl,rfl⟩;go_wp2_with fail;go_ret;exact⟨rfl,Below.refl _ _⟩
end Go.Proofs.YtapechjebkjidaaGreatDoor
namespace Go.Proofs.YtapechjebkjidaaGreatDoor
theorem bulk_one {H:Type} (d:DataW H):1≤Rows.uptoBulk d:=by
 cases d with
 | lit l=>cases l <;> simp [Rows.uptoBulk]
 | nil=>simp [Rows.uptoBulk]
 | ptr d=>simp [Rows.uptoBulk]
 | slice elems spare=>simp [Rows.uptoBulk]
 | agg parts=>simp [Rows.uptoBulk]
 | iface t d=>simp [Rows.uptoBulk]
 | map entries=>simp [Rows.uptoBulk]
 | held h=>simp [Rows.uptoBulk]
theorem bulk_len {H:Type} (l:List (DataW H)):l.length≤Rows.uptoBulkAll l:=by
 induction l with
 | nil=>simp
 | cons x r ih=>have:=bulk_one x;simp only [Rows.uptoBulkAll,List.length_cons];omega
theorem bulk_slice {H:Type} {d:DataW H} {c:Nat} (h:(d=.nil∧c=0)∨∃ elems spare,d=.slice elems spare∧elems.length+spare.length=c):c≤Rows.uptoBulk d:=by
 rcases h with ⟨_,rfl⟩ | ⟨elems,spare,rfl,rfl⟩;exact Nat.zero_le _;have h1:=bulk_len elems;have h2:=bulk_len spare;simp only [Rows.uptoBulk];omega
theorem bulk_string {H:Type} (s:ByteArray):s.size≤Rows.uptoBulk (DataW.lit (H:=H) (.string s.data.toList)):=by
 have e:s.data.toList.length=s.size:=(by rw [Array.length_toList];rfl);simp only [Rows.uptoBulk];omega
theorem bulk_bound {H:Type} {l:List (DataW H)} (hk:Rows.uptoSmall H l=true):Rows.uptoBulkAll l≤1048576:=of_decide_eq_true hk
end Go.Proofs.YtapechjebkjidaaGreatDoor
namespace Go.Proofs.YtapechjebkjidaaGreatDoor
open Go.RowKit Go.ChangeShapes Go.WideShapes Go.ChangeAt Go.Shelf
open Go.ChangeMaps (open_string shut_string)
theorem shelfedges_reads (os:Os) {H:Type} (enc:TypeId × Value→H) :
    (OpenSpec.ofChange Rows.shelfEdgesSpec).preRow enc Tryz.prog Tryz.f6 Rows.shelfEdgesRow.domain false Rows.shelfEdgesRow.laid ((cy os).forCall (fun _ _=>0) ⟨#[],#[.string ⟨#[]⟩],[]⟩).memory #[.string ⟨#[]⟩]:=by
 have hw:(DataW.whole enc Tryz.prog ((cy os).forCall (fun _ _=>0) ⟨#[],#[.string ⟨#[]⟩],[]⟩).memory Tryz.f6.params.toList Rows.shelfEdgesSpec.vars false #[.string ⟨#[]⟩].toList 8).map (fun x=>(x.1,x.2.1)) =
     some ([.lit (.string [])],[]):=by kernel_rfl
 obtain⟨⟨x1,x2,x3⟩,hx,hx1⟩:=Option.map_eq_some_iff.1 hw;simp only [Prod.mk.injEq]at hx1;obtain⟨rfl,rfl⟩:=hx1;exact OpenSpec.preRow_of_cond 8 hx (by kernel_rfl) (fun k hk=>by cases hk) (by kernel_rfl) (mz os _)
theorem shelfedges_lifted (os:Os) (started:os.Started) (H:Type) (enc:TypeId × Value→H) (F:Stop.Interp) :
    ReturnsInHanded {} Tryz.checked os 6 .any ((OpenSpec.ofChange Rows.shelfEdgesSpec).preRow enc Tryz.prog Tryz.f6 Rows.shelfEdgesRow.domain false Rows.shelfEdgesRow.laid) (((OpenSpec.ofChange Rows.shelfEdgesSpec).at F).post enc Tryz.prog Tryz.f6 false true false false):=by
 refine returnsInHanded_of_row (C:=Tryz.checked) (s:=(OpenSpec.ofChange Rows.shelfEdgesSpec)) mF started (by kernel_rfl) Tryz.func6
   (witness_row_atRef (enc:=enc) (C:=Tryz.checked) false (cy os) #[.string ⟨#[]⟩] rfl (by kernel_rfl) (by kernel_rfl) (by kernel_rfl) (shelfedges_reads os enc)) ?_
 intro W base args ds gs before hval hW _ _ _ _ _ _;have Ny:=hW;obtain⟨p,q,CS,hV,rfl,hfz,hnd⟩:=hW;have hA:DataW.TrodAll enc Tryz.prog W 0 (fun _=>true) true Tryz.f6.params.toList args.toList ds p:=CS;have ng:∀ (j:Nat) t v,Tryz.f6.params[j]? = some t→args[j]? = some v→Value.okWide Tryz.prog W .any base t v:=hval;rw [Tryz.params6]at hA ng;obtain⟨v0,d0,rfl,rfl,h0⟩:=trodAll_one hA;obtain⟨rfl,rfl⟩:=trodVars_none hV;obtain⟨s0,rfl,rfl,rfl,hs0⟩:=open_string Tryz.underlying9 (ng 0 _ v0 rfl rfl) h0;refine(shelf_edges s0 W).mono fun e W' ⟨he,hb⟩=>⟨_,he,?_⟩;exact kV Tryz.underlying4 rfl rfl mQ (by kernel_rfl) Ny rfl hb
theorem shelfedges_said:Rows.ShelfEdgesSaid :=
  OpenClaim.holds_of_cond 6 Tryz.f6 rfl rfl rfl rfl rfl rfl rfl ⟨rfl,rfl,rfl,rfl,rfl⟩ rfl rfl rfl rfl rfl (by kernel_rfl) Tryz.func6 shelfedges_joined
    (of_decide_eq_true (by kernel_rfl)) (by unfold Func.isWrapper;first | (rw [if_pos (by decide +kernel)];kernel_rfl) | (rw [if_neg (by decide +kernel)];exact⟨rfl,rfl⟩))
    (fun os started H enc _ F=>by rw [OpenClaim.pre_eq_preRow];exact shelfedges_lifted os started H enc F)
theorem shelfedges_plain (f:FuncId) (fn:Func) (hf : Tryz.pinned.checked.prog.funcNamed "scriptshift/scriptlaw16.ShelfEdges" = some f) (hfn : Tryz.pinned.checked.prog.funcs[f]? = some fn) :
    true = Tryz.pinned.checked.prog.looks []∧∀ (j:Nat) t,fn.params[j]? = some t → Tryz.pinned.checked.prog.wantsStandIn t=false:=by
 obtain rfl:f = 6:=Option.some.inj ((show Tryz.prog.funcNamed "scriptshift/scriptlaw16.ShelfEdges" = some 6 by kernel_rfl).symm.trans hf) |>.symm;obtain rfl:fn = Tryz.f6:=(Option.some.inj (Tryz.func6.symm.trans hfn)).symm;refine⟨by kernel_rfl,fun j t ht=>?_⟩;have h:(Tryz.f6.params.toList.all fun t=>!Tryz.prog.wantsStandIn t)=true:=(by kernel_rfl);have h2:=List.all_eq_true.1 h t (by simpa using Array.mem_of_getElem? ht);have h3 : Tryz.prog.wantsStandIn t=false:=(by simpa using h2);exact h3
/-- THE CARD. -/
theorem shelfedges_card:Rows.ShelfEdgesCardSaid :=
  Claim7.holds_tied_plain_at .later [] _ _ _ _ shelfedges_said (fun _ h=>by cases h) (by kernel_rfl) (fun _ h=>by cases h) shelfEdges_row_tie rfl ⟨rfl,rfl⟩ (by kernel_rfl) rfl shelfedges_plain (by kernel_rfl)
end Go.Proofs.YtapechjebkjidaaGreatDoor
