/- RdQuoted + RdFr + CurClass + SetFr -/
import Derived.Test.YthgkedoildcbcaaGreatDoorZt40
import Derived.Test.YthgkedoildcbcaaGreatDoorZt13
import Derived.Test.YthgkedoildcbcaaGreatDoorZt21
set_option maxHeartbeats 6400000
set_option maxRecDepth 100000
namespace Go.Proofs.YthgkedoildcbcaaGreatDoor
open Go.RowKit
theorem Aw:(Tryz.prog.info? 171).map (fun i=>(i.zero,i.size,i.bytes))=some (some (.agg #[.int .i64 0,.int .i32 0,.slice none 0 0,.string ⟨#[]⟩]),4,56):=by kernel_rfl
def iz (l:List Int):List Value:=l.flatMap fun x=>[.int .i64 1,.int .i32 x,.slice none 0 0,.string ⟨#[]⟩]
theorem C9 (l:List Int) (x:Int):iz (l++[x])=iz l++[.int .i64 1,.int .i32 x,.slice none 0 0,.string ⟨#[]⟩]:=by simp [iz]
theorem Ql (x:Int):∀ u ∈ [Value.int .i64 1,.int .i32 x,.slice none 0 0,.string ⟨#[]⟩],u.oneCell'=true:=by
 intro u hu;simp at hu;rcases hu with rfl | rfl | rfl | rfl <;> rfl
theorem EE {L:List Int} {a j:Nat} (ha:a≤j) (hj:j<L.length):aL L a (j+1)=aL L a j++[pk L j]:=by
 unfold aL;rw [show j+1 - a=(j - a)+1 by omega,List.take_add_one,List.getElem?_drop,show a+(j - a)=j by omega,List.getElem?_eq_getElem hj,Ia (List.getElem?_eq_getElem hj)];rfl
theorem CX (L:List Int) (a:Nat):aL L a a = []:=by unfold aL;rw [Nat.sub_self];rfl
theorem fD {w w1 w2:World} {C:Nat} (h:bP w C w1) (hb:Below w.heap.size w1 w2):bP w C w2 :=
  ⟨Nat.le_trans h.1 hb.size,hb.os.trans h.2.1,hb.tape.trans h.2.2.1,hb.output.trans h.2.2.2.1,fun k hk hne=>(hb.block k hk).trans (h.2.2.2.2 k hk hne)⟩
structure iV (lo:Nat) (w:World) (C:Nat) (A:Option Addr) (n c:Nat) (L:List Int) (i:Nat):Prop where
  cur:ax w C A n c L i
  row:bW w (fun b=>b≠C∧b<lo) 1 A n (runeCells L)
  lt:C<lo
theorem iV.start {w:World} {C:Nat} {A:Option Addr} {n c:Nat} {L:List Int} {i:Nat} (h:ax w C A n c L i):iV w.heap.size w C A n c L i :=
  ⟨h,h.row.keep (fun _ hX hl=>⟨rfl,⟨hX,hl⟩,hl⟩),h.blk.lt⟩
theorem iV.but {lo:Nat} {w w':World} {C:Nat} {A:Option Addr} {n c:Nat} {L:List Int} {i j:Nat} (h:iV lo w C A n c L i) (hc:ax w' C A n c L j) (hb:bP w C w'):iV lo w' C A n c L j :=
  ⟨hc,h.row.keep (hb.keeps (fun _ h=>h.1) (fun _ h _=>h)),h.lt⟩
theorem iV.below {lo:Nat} {w w':World} {C:Nat} {A:Option Addr} {n c:Nat} {L:List Int} {i:Nat} (h:iV lo w C A n c L i) (hb:Below lo w w'):iV lo w' C A n c L i:=by
 have hr:bW w' (fun b=>b≠C∧b<lo) 1 A n (runeCells L):=h.row.keep (fun b hX hl=>⟨hb.block b hX.2,hX,Nat.lt_of_lt_of_le hl hb.size⟩);exact⟨⟨h.cur.blk.same (hb.block C h.lt),hr.lift (fun _ h=>h.1),h.cur.size,h.cur.le,h.cur.cap⟩,hr,h.lt⟩
theorem iV.drewN {lo:Nat} {w:World} {C:Nat} {A:Option Addr} {n c:Nat} {L:List Int} {i:Nat} (h:iV lo w C A n c L i) (k:Nat):iV lo (w.drewN k) C A n c L i:=h.but (h.cur.drewN k) (bP.drewN w C k)
def MK (w:World) (C:Nat) (A:Option Addr) (n c:Nat) (L:List Int) (i:Nat) (e:Ending) (w':World):Prop :=
  (pk L (aB lW L (i+1))=39∧(∃ B m d,e=.returned (.slice B m d)∧bW w' (fun b=>w.heap.size≤b) 4 B m (iz (aL L (i+1) (aB lW L (i+1))))∧m≤d∧m≤n)∧ax w' C A n c L (aB lW L (i+1)+1)∧bP w C w') ∨
    (pk L (aB lW L (i+1))≠39∧e=aY 2 (aB lW L (i+1))∧bP w C w')
theorem JF (w:World) (C:Nat) (A:Option Addr) (n c:Nat) (L:List Int) (i:Nat) (h:ax w C A n c L i) (hi:i<n) (hn:n≤100000) :
    Calls Tryz.prog 113 #[.pointer (some ⟨C,0,none⟩)] w (MK w C A n c L i):=by
 obtain⟨i0,KO,z0,z1,z2⟩:=info_parts Aw;have hl:=h.len;have hw1:IntKind.i64.wrap ((i:Int)+1)=(i:Int)+1:=wrap_small _ (by omega) (by omega);obtain⟨d1,d2,d3,d4⟩:=h.step hi;have HLO:=qqh ((iV.start h).but d3 d4);have dO:=qqh d4;have iI:=qqh (fun(W:World) (m:Nat) (h:ax W C A n c L m)=>nB W C A n c L m h);obtain⟨r,hr⟩:∃ r,aB lW L (i+1)=r:=⟨_,rfl⟩;have HR:=qqh hr;unfold MK;rw [hr];clear h d3 d4 hr;go_enter Tryz.func113,Tryz.ntmps113;go_wp2_with fail;go_loopw [3] (fun out wr=>∃ j:Nat,i+1≤j∧j≤n∧r=aB lW L j∧wr.ownsRow w.heap.size 171 4 out (j - (i+1)) (iz (aL L (i+1) j))∧iV w.heap.size wr C A n c L j∧bP w C wr) (fun _ wr=>n - (match wr.cell? ⟨C,1,none⟩with | some (.int _ j)=>j.toNat | _=>0));(case atStart=>exact⟨i+1,Nat.le_refl _,hi,HR.out.symm,by rw [Nat.sub_self,CX];exact World.ownsRow_nil _ _ _ _,HLO.out,dO.out⟩);obtain⟨j,hij,hjn,hrun,hown,uZ,Bp⟩:=hrel;have HJ:=qqh uZ;have HB:=qqh Bp;have HO:=qqh hown;have SN:=qqh hrun;have oc:=qqh (uZ.cur.blk.cell 1);obtain⟨Av,cv,rfl,td⟩:=aI hown;have hwj:IntKind.i64.wrap ((j:Int)+1)=(j:Int)+1:=wrap_small _ (by omega) (by omega);obtain⟨x,hx⟩:∃ x,pk L j=x:=⟨_,rfl⟩;have HX:=qqh hx;have HP:=qqh (fun(W:World) (h:ax W C A n c L j)=>show Calls Tryz.prog 34 #[.pointer (some ⟨C,0,none⟩)] W fun e w'=>e=.returned (.int .i32 x)∧∃ m,w'=W.drewN m by have:=iI.out W j h;rwa [hx]at this);clear uZ Bp hown hrun hx;by_cases zO:x=39
 ·have hj:r=j:=SN.out.trans (cX (fun _=>by rw [HX.out,zO];rfl));have hlt:j<n:=(by rw [← hl];exact bD (by rw [HX.out];omega));subst zO;go_wp2_with fail;refine(HP.out _ HJ.out.cur).mono ?_;rintro e w3 ⟨rfl,m3,zl⟩;have mM:=qqh (HJ.out.drewN m3);have bL:=qqh (HB.out.trans (bP.drewN _ C m3));have sy:=qqh (show(World.drewN _ m3).ownsRow w.heap.size 171 4 _ _ _ from HO.out);rw [← zl]at mM bL sy;clear zl;have oe:=qqh (bW.cy (X:=fun b=>w.heap.size≤b) sy.out (fun b hb=>(aQ sy.out hb).1));obtain⟨s1,s2,s3,s4⟩:=mM.out.cur.step hlt;have Ef:=qqh s3;have ek:=qqh (bL.out.trans s4);have hCl:=mM.out.lt;have aar:=qqh (oe.out.keep (s4.keeps (X':=fun b=>w.heap.size≤b) (fun b h=>by omega) (fun b h _=>h)));clear s3 s4;have ZM:=qqh hj;clear hj;go_wp2_with fail;go_ret;left;rw [ZM.out];exact⟨HX.out,⟨Av,_,cv,rfl,aar.out,td,by omega⟩,Ef.out,ek.out⟩
 have ae7:(x != 39)=true:=(by simp;exact zO);by_cases hneg:x<0
 ·have hj:r=j:=SN.out.trans (cX (fun _=>by rw [HX.out];unfold lW;rw [decide_eq_false (by omega)];rfl));have ZM:=qqh hj;have DK:=qqh (show pk L j≠39 by rw [HX.out];exact zO);clear hj zO;go_wp2_with fail;refine(HP.out _ HJ.out.cur).mono ?_;rintro e w3 ⟨rfl,m3,zl⟩;have mM:=qqh (HJ.out.drewN m3);have bL:=qqh (HB.out.trans (bP.drewN _ C m3));have sy:=qqh (show(World.drewN _ m3).ownsRow w.heap.size 171 4 _ _ _ from HO.out);rw [← zl]at mM bL sy;clear zl;go_wp2_with fail;refine(HP.out _ mM.out.cur).mono ?_;rintro e w4 ⟨rfl,m4,QO⟩;have Fu:=qqh (mM.out.drewN m4);have ek:=qqh (bL.out.trans (bP.drewN _ C m4));have ox:=qqh (show(World.drewN _ m4).ownsRow w.heap.size 171 4 _ _ _ from sy.out);rw [← QO]at Fu ek ox;clear QO;have k1:=Fu.out.cur.blk.cell 1;go_wp2_with fail;refine(ck 2 j _).mono ?_;rintro e w5 ⟨rfl,rfl⟩;go_wp2_with fail;rw [ZM.out];exact⟨rfl,.inr ⟨DK.out,rfl,ek.out⟩⟩
 have hge:decide (x<0)=false:=decide_eq_false hneg;have hlt:j<n:=(by rw [← hl];exact bD (by rw [HX.out];omega));have KL:=qqh (SN.out.trans (ej (p:=lW) (by omega) (by rw [HX.out];unfold lW;simp;omega)));have vu:=qqh (show iz (aL L (i+1) (j+1))=iz (aL L (i+1) j)++[.int .i64 1,.int .i32 x,.slice none 0 0,.string ⟨#[]⟩] by rw [EE hij (by omega),C9,HX.out]);clear zO hneg;go_wp2_with fail;refine(HP.out _ HJ.out.cur).mono ?_;rintro e w3 ⟨rfl,m3,zl⟩;have mM:=qqh (HJ.out.drewN m3);have bL:=qqh (HB.out.trans (bP.drewN _ C m3));have sy:=qqh (show(World.drewN _ m3).ownsRow w.heap.size 171 4 _ _ _ from HO.out);rw [← zl]at mM bL sy;clear zl;go_wp2_with fail;refine(HP.out _ mM.out.cur).mono ?_;rintro e w4 ⟨rfl,m4,QO⟩;have Fu:=qqh (mM.out.drewN m4);have ek:=qqh (bL.out.trans (bP.drewN _ C m4));have ox:=qqh (show(World.drewN _ m4).ownsRow w.heap.size 171 4 _ _ _ from sy.out);rw [← QO]at Fu ek ox;clear QO;have CS:=qqh (fun(W:World)=>Rd.new W 171 4 1 [.int .i64 1,.int .i32 x,.slice none 0 0,.string ⟨#[]⟩] rfl);go_wp2_with fail;refine(HP.out _ Fu.out.cur).mono ?_;rintro e w5 ⟨rfl,m5,IC⟩;have H8:=qqh (Fu.out.drewN m5);have dQ:=qqh (ek.out.trans (bP.drewN _ C m5));have ud:=qqh (show(World.drewN _ m5).ownsRow w.heap.size 171 4 _ _ _ from ox.out);rw [← IC]at H8 dQ ud;clear IC;have y8:=qqh (World.ownsRow.alloc ud.out (.cells #[.int .i64 1,.int .i32 x,.slice none 0 0,.string ⟨#[]⟩] 171));have fu:=(Below.refl w5.heap.size w5).alloc (Nat.le_refl _) (.cells #[.int .i64 1,.int .i32 x,.slice none 0 0,.string ⟨#[]⟩] 171);have IC:=dQ.out.1;have gx:=qqh (bP.below (w:=w5) C fu)
 have kC:=qqh (dQ.out.trans gx.out);have BA:=qqh (H8.out.below (fu.mono IC));have hsz:=kC.out.1;clear fu;go_wp2_with (at_builtin;refine ak _ rfl (.tmp 29) (.tmp 35) 93 rfl w.heap.size 171 i0 _ 4 56 Tryz.underlying93 KO z0 z1 z2 rfl (by decide) _ _ _ rfl y8.out (w5.heap.size+1) (some ⟨w5.heap.size,0,none⟩) 1 1 [.int .i64 1,.int .i32 x,.slice none 0 0,.string ⟨#[]⟩] rfl (CS.out w5) (Ql x) (by simp only [maxLen];omega) (by omega) hsz ?_);intro v' w9 au;have bR:=au.below hsz y8.out;have Kk:=qqh (BA.out.below bR);have eK:=qqh (fD kC.out bR);have fN:=qqh (show w9.ownsRow w.heap.size 171 4 v' (j+1 - (i+1)) (iz (aL L (i+1) (j+1))) by
  have:=au.own;rw [vu.out,show j+1 - (i+1)=j - (i+1)+1 by omega];exact this)
 clear au bR;obtain⟨s1,s2,s3,s4⟩:=Kk.out.cur.step hlt;have HJA:=qqh (Kk.out.but s3 s4);have xo:=qqh (eK.out.trans s4);have hCl:=Kk.out.lt;obtain⟨A9,c9,rfl,_⟩:=aI fN.out;have UL:=qqh (ownsRow_setCell_below fN.out (a:=⟨C,1,none⟩) hCl (.int .i64 ((j:Int)+1)));clear s3 s4;go_wp2_with fail;refine⟨⟨j+1,by omega,hlt,KL.out,UL.out,HJA.out,xo.out⟩,?_⟩;have e1:(w9.setCell ⟨C,1,none⟩ (.int .i64 ((j:Int)+1))).cell? ⟨C,1,none⟩=some (.int .i64 ((j+1:Nat):Int)):=HJA.out.cur.blk.cell 1;have e2:wr.cell? ⟨C,1,none⟩=some (.int .i64 (j:Int)):=oc.out;rw [e1,e2];simp only [Int.toNat_natCast];omega
def iD (w:World) (X:Nat→Prop) (a:aE) (cs:List Value):Prop :=
  ∃ A n c,cs = [.int .i64 a.kind,.int .i32 a.rune,.slice A n c,.string a.name]∧bW w X 2 A n (an a.set)∧n≤c∧n≤maxLen
theorem iD.keep {w w':World} {X X':Nat→Prop} (hk:af w X w' X') (a:aE) (cs:List Value) (h:iD w X a cs):iD w' X' a cs:=by
 obtain⟨A,n,c,e,h1,h2⟩:=h;exact⟨A,n,c,e,h1.keep hk,h2⟩
theorem iD.one {w:World} {X:Nat→Prop} {a:aE} {cs:List Value} (h:iD w X a cs):∀ u∈cs,u.oneCell'=true:=by
 obtain⟨A,n,c,rfl,_⟩:=h;intro u hu;simp at hu;rcases hu with rfl | rfl | rfl | rfl <;> rfl
def xC (lo C:Nat) (v:Value) (b:Nat):Prop:=lo≤b∧b≠C∧v.ownBlock≠some b
def gN (lo C:Nat) (w:World) (v:Value) (l:List aE):Prop:=dH (iD w (xC lo C v)) 171 4 w lo v l
theorem G6 {w w':World} {C base sz n:Nat} {e:TypeId} {v:Value} {xs:List Value} (h:w.ownsRow base e sz v n xs) (hb:bP w C w') (hC:C<base):w'.ownsRow base e sz v n xs:=by
 refine⟨h.1,?_⟩;rcases h.2 with h2 | ⟨g,cap,cur,hv,hg,hh,r⟩;exact .inl h2;exact .inr ⟨g,cap,cur,hv,hg,(hb.2.2.2.2 g (Array.getElem?_eq_some_iff.1 hh).1 (by omega)).trans hh,r⟩
theorem gN.but {lo C:Nat} {w w':World} {v:Value} {l:List aE} (h:gN lo C w v l) (hb:bP w C w') (hC:C<lo):gN lo C w' v l :=
  dH.kept (fun _ _ ho=>G6 ho hb hC) (iD.keep (hb.keeps (fun _ h=>h.2.1) (fun _ h _=>h))) h
theorem BJ {lo C m sz:Nat} {e:TypeId} {v v':Value} {ys:List Value} {w w2:World} (ha:aR lo e sz v w m ys v' w2):af w (xC lo C v) w2 (xC lo C v'):=by
 refine af.app ha (fun b hb=>hb.2.2) (fun b hb hl=>⟨hb.1,hb.2.1,?_⟩);rcases ha.2.2 with e | e
 ·rw [e];exact hb.2.2
 rw [e];intro h;injection h with h;omega
theorem gN.push {lo C:Nat} {w:World} {v:Value} {l:List aE} (h:gN lo C w v l) (a:aE) {cs:List Value} (ha:iD w (xC lo C v) a cs) (hcs:cs.length=4) :
    ∃ ys,w.ownsRow lo 171 4 v l.length ys∧∀ v' w',aR lo 171 4 v w (l.length+1) (ys++cs) v' w'→gN lo C w' v' (l++[a]):=by
 obtain⟨css,h1,h2,h3,h4⟩:=h;refine⟨css.flatten,h4,fun v' w' au=>?_⟩;have hk:af w (xC lo C v) w' (xC lo C v'):=BJ au;exact dH.push h1 h2 h3 (iD.keep hk) (ha.keep hk) hcs au
def qc (x:Int):List Value:=[.int .i64 1,.int .i32 x,.slice none 0 0,.string ⟨#[]⟩]
theorem Pn (rs:List Int):(rs.map qc).flatten=iz rs:=by unfold iz;rw [List.flatMap_def];rfl
theorem Cj (w:World) (X:Nat→Prop) (x:Int):iD w X (nA x) (qc x):=⟨none,0,0,rfl,⟨rfl,fun h=>absurd h (by omega)⟩,Nat.le_refl _,Nat.zero_le _⟩
theorem gN.Xh {lo C:Nat} {w:World} {v:Value} {l:List aE} (h:gN lo C w v l) (rs:List Int) :
    ∃ ys,w.ownsRow lo 171 4 v l.length ys∧∀ v' w',aR lo 171 4 v w (l.length+rs.length) (ys++iz rs) v' w'→gN lo C w' v' (l++rs.map nA):=by
 obtain⟨css,h1,h2,h3,h4⟩:=h;refine⟨css.flatten,h4,fun v' w' au=>?_⟩;have hk:af w (xC lo C v) w' (xC lo C v'):=BJ au;refine⟨css++rs.map qc,by simp [h1],?_,?_,?_⟩
 ·intro i a cs ha hc;rcases Nat.lt_or_ge i l.length with hi | hi
  ·rw [List.getElem?_append_left hi]at ha;rw [List.getElem?_append_left (by omega)]at hc;exact iD.keep hk a cs (h2 i a cs ha hc)
  rw [List.getElem?_append_right hi,List.getElem?_map]at ha;rw [List.getElem?_append_right (by omega),h1,List.getElem?_map]at hc;cases hx:rs[i - l.length]? with
  | none=>rw [hx]at ha;cases ha
  | some x=>
   rw [hx]at ha hc;obtain rfl:=Option.some.inj ha;obtain rfl:=Option.some.inj hc;exact Cj w' _ x
 ·intro cs hc;rcases List.mem_append.1 hc with hc | hc;exact h3 cs hc;obtain⟨x,_,rfl⟩:=List.mem_map.1 hc;rfl
 have:=au.own;rw [List.flatten_append,Pn,List.length_append,List.length_map];exact this
theorem gN.form {lo C:Nat} {w:World} {v:Value} {l:List aE} (h:gN lo C w v l):∃ A c,v=.slice A l.length c∧l.length≤c:=dH.form h
theorem gN.nil (lo C:Nat) (w:World):gN lo C w (.slice none 0 0) []:=dH.nil _ _
theorem gN.below {lo C:Nat} {w w':World} {v:Value} {l:List aE} (h:gN lo C w v l) (hb:Below w.heap.size w w'):gN lo C w' v l :=
  dH.kept (fun _ _ ho=>dy ho hb) (iD.keep (af.any hb)) h
theorem gN.apart {lo C:Nat} {w:World} {v:Value} {l:List aE} (h:gN lo C w v l) {b:Nat} (hb:w.heap.size≤b):v.ownBlock≠some b:=by
 obtain⟨css,h1,h2,h3,h4⟩:=h;intro e;have:=(aQ h4 e).2;omega
def XB (p:Int→Bool) (w:World) (C:Nat) (A:Option Addr) (n c:Nat) (L:List Int) (a r:Nat) (wr:World):Prop :=
  ∃ j,a≤j∧j≤n∧r=aB p L j∧ax wr C A n c L j∧bP w C wr
theorem Ix {L:List Int} {i r:Nat} (hr:aB dr L (i+2)=r) (h:ie (aL L (i+2) r)=none):fk L i=.error (7,i+2):=by subst hr;unfold fk;rw [h]
theorem I0 {L:List Int} {i r:Nat} {s:ag} {e:Int × Nat} (hr:aB dr L (i+2)=r) (h:ie (aL L (i+2) r)=some s) (h2:aU L r 58=.error e):fk L i=.error e:=by subst hr;unfold fk;rw [h];simp only;rw [h2]
theorem JN {L:List Int} {i r j:Nat} {s:ag} {e:Int × Nat} (hr:aB dr L (i+2)=r) (h:ie (aL L (i+2) r)=some s) (h2:aU L r 58=.ok j) (h3:aU L j 93=.error e):fk L i=.error e:=by subst hr;unfold fk;rw [h];simp only;rw [h2];simp only;rw [h3]
theorem NC {L:List Int} {i r j k:Nat} {s:ag} (hr:aB dr L (i+2)=r) (h:ie (aL L (i+2) r)=some s) (h2:aU L r 58=.ok j) (h3:aU L j 93=.ok k):fk L i=.ok (s,k):=by subst hr;unfold fk;rw [h];simp only;rw [h2];simp only;rw [h3]
theorem tW (l:List Int) (h:l.length≤4611686018427387904) (h2:l.length≤100000):(runesBytes l).size≤maxLen:=by
 have:=runesBytes_size_le l;simp only [maxLen];omega
theorem Kv (w:World) (C:Nat) (A:Option Addr) (n c:Nat) (L:List Int) (i:Nat) (h:ax w C A n c L i) (hL:gl L) (hi:i+2≤n) (hn:n≤100000) :
    Calls Tryz.prog 82 #[.pointer (some ⟨C,0,none⟩)] w (eN w C A n c L (fk L i)):=by
 have hs:=h.size;have hlen:=h.len;obtain⟨b,off,rfl,_,_⟩:=h.at (by omega);have HL:=qqh hL;have c0:=h.blk.cell 0;have c1:=h.blk.cell 1;have f1:=h.blk.frozen 1;have hw1:IntKind.i64.wrap ((i:Int)+2)=(i:Int)+2:=wrap_small _ (by omega) (by omega);have hm:=h.move (j:=i+2) hi;have SG:=bP.set w C 1 (.int .i64 ((i+2:Nat):Int));rw [show(((i+2:Nat)):Int)=(i:Int)+2 by omega]at hm SG;have HM:=qqh hm;have b7:=qqh SG;obtain⟨R,hR⟩:∃ R,fk L i=R:=⟨_,rfl⟩;rw [hR];have fZ:=qqh hR;clear hL hm h SG hR;obtain⟨r,hr⟩:∃ r,aB dr L (i+2)=r:=⟨_,rfl⟩;have ko:=qqh hr;have hi2:((i+2:Nat):Int)=(i:Int)+2:=(by omega);obtain⟨a,ha⟩:∃ a,i+2=a:=⟨_,rfl⟩;have haI:(i:Int)+2=(a:Int):=(by omega);have HA:=qqh ha;rw [haI]at HM b7 hw1;rw [ha]at HM;clear hr hi2;go_enter Tryz.func82,Tryz.ntmps82;go_wp2_with fail;go_loopw [17] (fun _ wr=>XB dr w C (some ⟨b,off,none⟩) n c L a r wr) (fun _ wr=>n - (match wr.cell? ⟨C,1,none⟩with | some (.int _ j)=>j.toNat | _=>0));(case atStart=>exact⟨a,Nat.le_refl _,HM.out.le,by rw [← ko.out,HA.out],HM.out,b7.out⟩);obtain⟨j,haj,hj,hrun,uZ,Bp⟩:=hrel;have HJ:=qqh uZ;have HB:=qqh Bp;have HR:=qqh hrun;have iI:=qqh (fun(W:World) (h:ax W C (some ⟨b,off,none⟩) n c L j)=>cW W C (some ⟨b,off,none⟩) n c L j h);have oc:=qqh (uZ.blk.cell 1);have qs:=qqh (fun(W:World)=>pT (pk L j) W (HL.out.pk j));clear uZ Bp hrun;by_cases EZ:dr (pk L j)=true
 ·rw [EZ]at qs;have hlt:j<L.length:=bD (fun e=>by rw [e]at EZ;exact absurd EZ (by decide));have E5:IntKind.i64.wrap ((j:Int)+1)=(j:Int)+1:=wrap_small _ (by omega) (by omega);go_wp2_with fail;refine(iI.out _ HJ.out).mono ?_;rintro e w2 ⟨rfl,hc2,bu⟩;have sC:=qqh hc2;have bG:=qqh (HB.out.trans bu);clear hc2 bu;go_wp2_with fail;refine(qs.out _).mono ?_;rintro e w3 ⟨rfl,bN⟩;have rH:=qqh (sC.out.below bN);have bL:=qqh (bG.out.trans (bP.below C bN));clear bN;obtain⟨d1,d2,d3,d4⟩:=rH.out.step (by omega);have vU:=qqh d3;have ek:=qqh (bL.out.trans d4);clear d3 d4;go_wp2_with fail;refine⟨⟨j+1,by omega,by omega,HR.out.trans (ej hlt EZ),vU.out,ek.out⟩,?_⟩;have e1:(w3.setCell ⟨C,1,none⟩ (.int .i64 ((j:Int)+1))).cell? ⟨C,1,none⟩=some (.int .i64 ((j+1:Nat):Int)):=vU.out.blk.cell 1;have e2:wr.cell? ⟨C,1,none⟩=some (.int .i64 (j:Int)):=oc.out;rw [e1,e2];simp only [Int.toNat_natCast];omega
 rw [Bool.not_eq_true]at EZ;rw [EZ]at qs;obtain rfl:r=j:=HR.out.trans (cX (fun _=>EZ));clear HR;go_wp2_with fail;refine(iI.out _ HJ.out).mono ?_;rintro e w2 ⟨rfl,hc2,bu⟩;have sC:=qqh hc2;have bG:=qqh (HB.out.trans bu);clear hc2 bu;go_wp2_with fail;refine(qs.out _).mono ?_;rintro e w3 ⟨rfl,bN⟩;have rH:=qqh (sC.out.below bN);have bL:=qqh (bG.out.trans (bP.below C bN));have QD:=qqh (show Below w3.heap.size w3 w3.drew from(Below.refl _ _).drew);clear bN;have d0:=rH.out.blk.cell 0;have d1:=rH.out.blk.cell 1;have td:=xA (rH.out.drewN 1) haj hj;have hk1:(a:Int)≤(r:Int):=(by omega);have hk2:(r:Int)≤(c:Int):=(by have:=rH.out.cap;omega);have Qr:(0:Int)≤(a:Int):=(by omega);have hts:(runesBytes (aL L a r)).size≤maxLen:=tW _ (by unfold aL;rw [List.length_take];omega) (by unfold aL;rw [List.length_take];omega);have HCT:=qqh (Fy (aL L a r));generalize runesBytes (aL L a r)=T at *;have vC:=qqh (fun(W:World)=>IE T W hts);clear hts;cases Fp:ie (aL L a r)with
 | none=>
  have HT:=qqh (HCT.out.trans Fp);have lZ:=qqh (show R=.error (7,i+2) from fZ.out.symm.trans (Ix ko.out (by rw [HA.out];exact Fp)));clear Fp;go_upto_region 5 with fail;refine ay (S:=(fun w'=>w'.cell? ⟨C,0,none⟩=some (.slice (some ⟨b,off,none⟩) n c)∧w'.cell? ⟨C,1,none⟩=some (.int .i64 r)∧(convert 26 9 (.slice (if c=a then some ⟨b,off,none⟩else some ⟨b,off+a,none⟩) (r - a) (c - a))).run Tryz.prog w'=.ok (.string T) w')) [3,8,10] (by kernel_rfl) ⟨d0,d1,td⟩ (fun bH=>?_);refine tq 0 28 ?_;(try simp only [zp,za,z0,zs]);refine tq 1 29 ?_;(try simp only [zp,za,z0,zs]);refine tq 2 30 ?_;(try simp only [zp,za,z0,zs]);refine tu 3 31 ?_;(try simp only [zp,za,z0,zs]);refine tq 4 32 ?_;(try simp only [zp,za,z0,zs]);refine tq 5 33 ?_;(try simp only [zp,za,z0,zs]);refine tq 6 34 ?_;(try simp only [zp,za,z0,zs]);refine tq 7 35 ?_;(try simp only [zp,za,z0,zs]);refine tu 8 36 ?_;(try simp only [zp,za,z0,zs]);refine tq 9 37 ?_;(try simp only [zp,za,z0,zs]);refine tu 10 38 ?_;(try simp only [zp,za,z0,zs]);refine aA (i:=11) (o:=⟨some 39,_,_,_,_,_⟩) (by kernel_rfl) rfl (by kernel_rfl) (fun K hK=>?_);go_simp;go_at_call 107;refine(vC.out _).mono ?_;rintro e w6 EO;unfold pM at EO;rw [HT.out]at EO;obtain⟨rfl,fu⟩:=EO;(try dsimp only);refine hK.out _ _ ?_;clear hK K;(try simp only [zp,za,z0,zs]);refine tq 12 27 ?_;(try simp only [zp,za,z0,zs]);refine tq 13 40 ?_;(try simp only [zp,za,z0,zs]);refine tq 14 41 ?_;(try simp only [zp,za,z0,zs]);refine tq 15 4 ?_;(try simp only [zp,za,z0,zs]);refine tq 16 5 ?_;(try simp only [zp,za,z0,zs]);refine aJ (by kernel_rfl) ?_ _;generalize (if c=a then some ({ block:=b,off:=off }:Addr)else some { block:=b,off:=off+a })=Z;have gx:=qqh (bL.out.trans (bP.below C (QD.out.trans (Below.mono fu (Nat.le_refl _)))))
  have HF:=qqh (fun(W:World)=>ck 7 a W);clear fu;go_simp;go_wp2_with fail;refine(HF.out _).mono ?_;rintro e w7 ⟨rfl,rfl⟩;go_wp2_with fail;rw [lZ.out,HA.out];exact⟨rfl,rfl,gx.out⟩
 | some s=>
  have HT:=qqh (HCT.out.trans Fp);have Sk:=qqh (show ie (aL L (i+2) r)=some s by rw [HA.out];exact Fp);clear Fp;go_upto_region 5 with fail;refine ay (S:=(fun w'=>w'.cell? ⟨C,0,none⟩=some (.slice (some ⟨b,off,none⟩) n c)∧w'.cell? ⟨C,1,none⟩=some (.int .i64 r)∧(convert 26 9 (.slice (if c=a then some ⟨b,off,none⟩else some ⟨b,off+a,none⟩) (r - a) (c - a))).run Tryz.prog w'=.ok (.string T) w')) [3,8,10] (by kernel_rfl) ⟨d0,d1,td⟩ (fun bH=>?_);refine tq 0 28 ?_;(try simp only [zp,za,z0,zs]);refine tq 1 29 ?_;(try simp only [zp,za,z0,zs]);refine tq 2 30 ?_;(try simp only [zp,za,z0,zs]);refine tu 3 31 ?_;(try simp only [zp,za,z0,zs]);refine tq 4 32 ?_;(try simp only [zp,za,z0,zs]);refine tq 5 33 ?_;(try simp only [zp,za,z0,zs]);refine tq 6 34 ?_;(try simp only [zp,za,z0,zs]);refine tq 7 35 ?_;(try simp only [zp,za,z0,zs]);refine tu 8 36 ?_;(try simp only [zp,za,z0,zs]);refine tq 9 37 ?_;(try simp only [zp,za,z0,zs]);refine tu 10 38 ?_;(try simp only [zp,za,z0,zs]);refine aA (i:=11) (o:=⟨some 39,_,_,_,_,_⟩) (by kernel_rfl) rfl (by kernel_rfl) (fun K hK=>?_);go_simp;go_at_call 107;refine(vC.out _).mono ?_;rintro e w6 EO;unfold pM at EO;rw [HT.out]at EO;obtain⟨⟨A6,n6,c6,rfl,Oi,En⟩,fu⟩:=EO;(try dsimp only);refine hK.out _ _ ?_;clear hK K;(try simp only [zp,za,z0,zs]);refine tq 12 27 ?_;(try simp only [zp,za,z0,zs]);refine tq 13 40 ?_;(try simp only [zp,za,z0,zs]);refine tq 14 41 ?_;(try simp only [zp,za,z0,zs]);refine tq 15 4 ?_;(try simp only [zp,za,z0,zs]);refine tq 16 5 ?_;(try simp only [zp,za,z0,zs]);refine aJ (by kernel_rfl) ?_ _;generalize (if c=a then some ({ block:=b,off:=off }:Addr)else some { block:=b,off:=off+a })=Z;have J1:=qqh ((rH.out.drewN 1).below fu)
  have gx:=qqh (bL.out.trans (bP.below C (QD.out.trans (Below.mono fu (Nat.le_refl _)))));have Ua:=qqh (Oi.lift (X':=fun b=>b≠C∧w.heap.size≤b) (fun b h=>⟨fun e=>by have:=rH.out.blk.lt;have h2:w3.heap.size≤b:=h;omega,Nat.le_trans bL.out.1 h⟩));clear fu Oi;have HN:=qqh (fK w6 C _ n c L r 58 J1.out (by decide));go_simp;cases hn:aU L r 58 with
  | error e0=>
   obtain⟨x,p⟩:=e0;rw [hn]at HN;have lZ:=qqh (fZ.out.symm.trans (I0 ko.out Sk.out hn));clear hn;go_wp2_with fail;refine HN.out.mono ?_;rintro e w7 ⟨he,hb⟩;unfold aY at he;subst he;have od:=qqh (gx.out.trans hb);clear hb;go_wp2_with fail;rw [lZ.out];exact⟨rfl,rfl,od.out⟩
  | ok j2=>
   rw [hn]at HN;have Qk:=qqh hn;clear hn;go_wp2_with fail;refine HN.out.mono ?_;rintro e w7 ⟨rfl,hc,hb⟩;have KM:=qqh hc;have od:=qqh (gx.out.trans hb);have HR7:=qqh (Ua.out.keep (hb.keeps (X':=fun b=>b≠C∧w.heap.size≤b) (fun b h=>h.1) (fun b h _=>h)));clear hb hc;have KF:=qqh (fK w7 C _ n c L j2 93 KM.out (by decide));cases hn:aU L j2 93 with
   | error e0=>
    obtain⟨x,p⟩:=e0;rw [hn]at KF;have lZ:=qqh (fZ.out.symm.trans (JN ko.out Sk.out Qk.out hn));clear hn;go_wp2_with fail;refine KF.out.mono ?_;rintro e w8 ⟨he,hb⟩;unfold aY at he;subst he;have wD:=qqh (od.out.trans hb);clear hb;go_wp2_with fail;rw [lZ.out];exact⟨rfl,rfl,wD.out⟩
   | ok k2=>
    rw [hn]at KF;have lZ:=qqh (fZ.out.symm.trans (NC ko.out Sk.out Qk.out hn));clear hn;go_wp2_with fail;refine KF.out.mono ?_;rintro e w8 ⟨rfl,hc,hb⟩;have Ta:=qqh hc;have wD:=qqh (od.out.trans hb);have HR8:=qqh (HR7.out.keep (hb.keeps (X':=fun b=>w.heap.size≤b) (fun b h=>h.1) (fun b h _=>h.2)));clear hb hc;go_wp2_with fail;go_ret;rw [lZ.out];exact⟨⟨A6,n6,c6,rfl,HR8.out,En⟩,Ta.out,wD.out⟩
theorem ax.apart {w:World} {C G:Nat} {A:Option Addr} {n c:Nat} {L:List Int} {i:Nat} {t:TypeId} {v:Value} (h:ax w C A n c L i) (hG:ai w G t #[v]) (hv:∀ x,v≠.int .i32 x):bW w (fun b=>b≠C∧b≠G) 1 A n (runeCells L):=by
 refine⟨h.row.1,fun hn=>?_⟩;obtain⟨b,off,e,hb,hl,hc⟩:=h.row.2 hn;refine⟨b,off,e,⟨hb,fun he=>?_⟩,hl,hc⟩;subst he;have hlen:=h.len;obtain⟨x,hx⟩:∃ x,L[0]? = some x:=⟨_,List.getElem?_eq_getElem (by omega)⟩;have h1:=hc 0 (.int .i32 x) (by rw [ey,hx];rfl);rw [hG.cell]at h1;rcases off with _ | off
 ·simp at h1;exact hv x h1
 simp at h1
theorem ax.set {w:World} {C G:Nat} {A:Option Addr} {n c:Nat} {L:List Int} {i:Nat} {t:TypeId} {v:Value} (h:ax w C A n c L i) (hG:ai w G t #[v]) (hv:∀ x,v≠.int .i32 x) (hne:C≠G) (u:Value):ax (w.setCell ⟨G,0,none⟩ u) C A n c L i:=by
 have hk:bP w G (w.setCell ⟨G,0,none⟩ u):=bP.set _ _ _ _;exact⟨h.blk.same (hk.2.2.2.2 C h.blk.lt hne),(h.apart hG hv).keep (hk.keeps (fun b h=>h.2) (fun b h _=>h.1)),h.size,h.le,h.cap⟩
structure fo (w:World) (C P G:Nat) (A:Option Addr) (n c:Nat) (L:List Int) (j:Nat) (s:ag) (wr:World):Prop where
  cur:ax wr C A n c L j
  box:ai wr P 125 #[.pointer (some ⟨C,0,none⟩)]
  set:∃ B m d,ai wr G 41 #[.slice B m d]∧bW wr (fun b=>b≠C∧b≠P∧b≠G∧w.heap.size≤b) 2 B m (an s)∧m≤d
  right:aH s
  but:bP w C wr
  lo:C<w.heap.size∧w.heap.size≤P∧w.heap.size≤G∧P≠G
section
variable {w wr w' : World} {C P G : Nat} {A : Option Addr} {n c : Nat} {L : List Int} {j : Nat} {s : ag}
theorem fo.jv (h:fo w C P G A n c L j s wr) (hb:bP wr C w') {k:Nat} (hc:ax w' C A n c L k):fo w C P G A n c L k s w':=by
 obtain⟨B,m,d,h1,h2,h3⟩:=h.set;obtain⟨l1,l2,l3,l4⟩:=h.lo;exact⟨hc,(hb.2.2.2.2 P h.box.lt (by omega)).trans h.box,⟨B,m,d,(hb.2.2.2.2 G h1.lt (by omega)).trans h1,h2.keep (hb.keeps (fun b h=>h.1) (fun b h _=>h)),h3⟩,h.right,h.but.trans hb,h.lo⟩
theorem fo.below (h:fo w C P G A n c L j s wr) (hb:Below wr.heap.size wr w'):fo w C P G A n c L j s w':=h.jv (bP.below C hb) (h.cur.below hb)
theorem fo.drew (h:fo w C P G A n c L j s wr):fo w C P G A n c L j s wr.drew:=h.below ((Below.refl _ _).drew)
theorem fo.put (h:fo w C P G A n c L j s wr) {t:ag} {B:Option Addr} {m d:Nat} (hr:bW wr (fun b=>b≠C∧b≠P∧b≠G∧w.heap.size≤b) 2 B m (an t)) (hd:m≤d) (ht:aH t) :
    fo w C P G A n c L j t (wr.setCell ⟨G,0,none⟩ (.slice B m d)):=by
 obtain⟨B0,m0,d0,h1,h2,h3⟩:=h.set;obtain⟨l1,l2,l3,l4⟩:=h.lo;have hk:bP wr G (wr.setCell ⟨G,0,none⟩ (.slice B m d)):=bP.set _ _ _ _;refine⟨h.cur.set h1 (fun x e=>by cases e) (by omega) _,(hk.2.2.2.2 P h.box.lt l4).trans h.box,⟨B,m,d,h1.put 0 _,hr.keep (hk.keeps (fun b h=>h.2.2.1) (fun b h _=>h)),hd⟩,ht,?_,h.lo⟩;exact⟨Nat.le_trans h.but.1 hk.1,hk.2.1.trans h.but.2.1,hk.2.2.1.trans h.but.2.2.1,hk.2.2.2.1.trans h.but.2.2.2.1,fun b hb hne=>(hk.2.2.2.2 b (Nat.lt_of_lt_of_le hb h.but.1) (by omega)).trans (h.but.2.2.2.2 b hb hne)⟩
end
theorem fo.arg {w wr:World} {C P G:Nat} {A:Option Addr} {n c:Nat} {L:List Int} {j:Nat} {s:ag} (h:fo w C P G A n c L j s wr) {B:Option Addr} {m d:Nat} (hb:ai wr G 41 #[.slice B m d]):cm wr B m d s:=by
 obtain⟨B0,m0,d0,h1,h2,h3⟩:=h.set;have e : #[Value.slice B m d] = #[.slice B0 m0 d0]:=by
  unfold ai at hb h1;rw [hb]at h1;injection h1 with h1;injection h1
 have e2:Value.slice B m d=.slice B0 m0 d0:=(by simpa using e);cases e2;exact⟨h.right,h2.of,h3⟩
theorem fo.part {w wx w1:World} {C P G:Nat} {A:Option Addr} {n c:Nat} {L:List Int} {j j2:Nat} {s t:ag} {e:Ending} (h:fo w C P G A n c L j s wx) (ht:aH t) (hp:eN wx C A n c L (.ok (t,j2)) e w1) :
    ∃ B m d,e=.returned (.slice B m d)∧fo w C P G A n c L j2 s w1∧cm w1 B m d t∧bP wx C w1:=by
 obtain⟨⟨B,m,d,rfl,hr,hd⟩,hc,hb⟩:=hp;exact⟨B,m,d,rfl,h.jv hb hc,⟨ht,hr.of,hd⟩,hb⟩
theorem fo.ni {w wx w1:World} {C P G:Nat} {A:Option Addr} {n c:Nat} {L:List Int} {j:Nat} {s:ag} {cs:Array Value} {t:TypeId} (h:fo w C P G A n c L j s wx) (hb:bP wx C w1) (hG:ai wx G t cs):ai w1 G t cs :=
  (hb.2.2.2.2 G hG.lt (by have:=h.lo;omega)).trans hG
theorem fo.fG {w wx:World} {C P G:Nat} {A:Option Addr} {n c:Nat} {L:List Int} {j:Nat} {s:ag} (h:fo w C P G A n c L j s wx):wx.cell? ⟨P,0,none⟩=some (.pointer (some ⟨C,0,none⟩)):=h.box.cell 0
theorem fo.op {w w1 w2:World} {C P G:Nat} {A:Option Addr} {n c:Nat} {L:List Int} {j:Nat} {s:ag} {r:ag × Int} {e:Ending} (h:fo w C P G A n c L j s w1) (hp:bV w1 r e w2) :
    ∃ B m d,e=.returned (.tuple #[.slice B m d,.int .i64 r.2])∧fo w C P G A n c L j s w2∧bW w2 (fun b=>b≠C∧b≠P∧b≠G∧w.heap.size≤b) 2 B m (an r.1)∧m≤d∧Below w1.heap.size w1 w2:=by
 obtain⟨B,m,d,rfl,h1,_,h2,h3⟩:=hp;refine⟨B,m,d,rfl,h.below h3,h1.lift (fun b hb=>?_),h2,h3⟩;obtain⟨B0,m0,d0,g1,_⟩:=h.set;have l1:=h.cur.blk.lt;have l2:=h.box.lt;have l3:=g1.lt;have l4:=h.but.1;exact⟨by omega,by omega,by omega,by omega⟩
theorem pV (B:Option Addr) (m d P G:Nat) (v:Value) (w:World) (hG:ai w G 41 #[v]) :
    Calls Tryz.prog 80 (#[.slice B m d,.int .i64 0] ++ #[.pointer (some ⟨P,0,none⟩),.pointer (some ⟨G,0,none⟩)]) w fun e w'=>e=.returned (.tuple #[])∧w'=w.setCell ⟨G,0,none⟩ (.slice B m d):=by
 have c0:=hG.cell 0;have f0:=hG.frozen 0;clear hG;go_enter Tryz.func80,Tryz.ntmps80;go_wp2_with fail;go_end0;exact⟨rfl,rfl⟩
theorem nu (B:Option Addr) (m d C P G:Nat) (A:Option Addr) (n c:Nat) (L:List Int) (j:Nat) (x:Int) (w:World) (hx:x≠0) (hP:ai w P 125 #[.pointer (some ⟨C,0,none⟩)]) (hC:ax w C A n c L j) :
    Calls Tryz.prog 80 (#[.slice B m d,.int .i64 x] ++ #[.pointer (some ⟨P,0,none⟩),.pointer (some ⟨G,0,none⟩)]) w fun e w'=>e=aY x j∧w'=w:=by
 have c0:=hP.cell 0;have d0:=hC.blk.cell 1;have hx2:(x != 0)=true:=(by simp;exact hx);have HF:=qqh (fun(W:World)=>ck x j W);clear hP hC hx;go_enter Tryz.func80,Tryz.ntmps80;go_wp2_with fail;refine(HF.out _).mono ?_;rintro e w3 ⟨rfl,rfl⟩;go_wp2_with fail;exact⟨rfl,rfl,rfl⟩
end Go.Proofs.YthgkedoildcbcaaGreatDoor
