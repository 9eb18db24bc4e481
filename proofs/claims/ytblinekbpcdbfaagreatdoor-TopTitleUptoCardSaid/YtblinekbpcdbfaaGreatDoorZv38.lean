/- RdQuoted + RdFr + CurClass + SetFr -/
import Derived.Test.YtblinekbpcdbfaaGreatDoorZv37
import Derived.Test.YtblinekbpcdbfaaGreatDoorZv13
import Derived.Test.YtblinekbpcdbfaaGreatDoorZv22
set_option maxHeartbeats 6400000
set_option maxRecDepth 100000
namespace Go.Proofs.YtblinekbpcdbfaaGreatDoor
open Go.RowKit
theorem zR:(Tryz.prog.info? 171).map (fun i=>(i.zero,i.size,i.bytes))=some (some (.agg #[.int .i64 0,.int .i32 0,.slice none 0 0,.string ⟨#[]⟩]),4,56):=by kernel_rfl
def gS (l:List Int):List Value:=l.flatMap fun x=>[.int .i64 1,.int .i32 x,.slice none 0 0,.string ⟨#[]⟩]
theorem DC (l:List Int) (x:Int):gS (l++[x])=gS l++[.int .i64 1,.int .i32 x,.slice none 0 0,.string ⟨#[]⟩]:=by simp [gS]
theorem QS (x:Int):∀ u ∈ [Value.int .i64 1,.int .i32 x,.slice none 0 0,.string ⟨#[]⟩],u.oneCell'=true:=by
 intro u hu;simp at hu;rcases hu with rfl | rfl | rfl | rfl <;> rfl
theorem Cq {L:List Int} {a j:Nat} (ha:a≤j) (hj:j<L.length):aM L a (j+1)=aM L a j++[pk L j]:=by
 unfold aM;rw [show j+1 - a=(j - a)+1 by omega,List.take_add_one,List.getElem?_drop,show a+(j - a)=j by omega,List.getElem?_eq_getElem hj,GH (List.getElem?_eq_getElem hj)];rfl
theorem C8 (L:List Int) (a:Nat):aM L a a = []:=by unfold aM;rw [Nat.sub_self];rfl
theorem fe {w w1 w2:World} {C:Nat} (h:bF w C w1) (hb:Below w.heap.size w1 w2):bF w C w2 :=
  ⟨Nat.le_trans h.1 hb.size,hb.os.trans h.2.1,hb.tape.trans h.2.2.1,hb.output.trans h.2.2.2.1,fun k hk hne=>(hb.block k hk).trans (h.2.2.2.2 k hk hne)⟩
structure iC (lo:Nat) (w:World) (C:Nat) (A:Option Addr) (n c:Nat) (L:List Int) (i:Nat):Prop where
  cur:av w C A n c L i
  row:cV w (fun b=>b≠C∧b<lo) 1 A n (runeCells L)
  lt:C<lo
theorem iC.start {w:World} {C:Nat} {A:Option Addr} {n c:Nat} {L:List Int} {i:Nat} (h:av w C A n c L i):iC w.heap.size w C A n c L i :=
  ⟨h,h.row.keep (fun _ hX hl=>⟨rfl,⟨hX,hl⟩,hl⟩),h.blk.lt⟩
theorem iC.but {lo:Nat} {w w':World} {C:Nat} {A:Option Addr} {n c:Nat} {L:List Int} {i j:Nat} (h:iC lo w C A n c L i) (hc:av w' C A n c L j) (hb:bF w C w'):iC lo w' C A n c L j :=
  ⟨hc,h.row.keep (hb.keeps (fun _ h=>h.1) (fun _ h _=>h)),h.lt⟩
theorem iC.below {lo:Nat} {w w':World} {C:Nat} {A:Option Addr} {n c:Nat} {L:List Int} {i:Nat} (h:iC lo w C A n c L i) (hb:Below lo w w'):iC lo w' C A n c L i:=by
 have hr:cV w' (fun b=>b≠C∧b<lo) 1 A n (runeCells L):=h.row.keep (fun b hX hl=>⟨hb.block b hX.2,hX,Nat.lt_of_lt_of_le hl hb.size⟩);exact⟨⟨h.cur.blk.same (hb.block C h.lt),hr.lift (fun _ h=>h.1),h.cur.size,h.cur.le,h.cur.cap⟩,hr,h.lt⟩
theorem iC.drewN {lo:Nat} {w:World} {C:Nat} {A:Option Addr} {n c:Nat} {L:List Int} {i:Nat} (h:iC lo w C A n c L i) (k:Nat):iC lo (w.drewN k) C A n c L i:=h.but (h.cur.drewN k) (bF.drewN w C k)
def Mp (w:World) (C:Nat) (A:Option Addr) (n c:Nat) (L:List Int) (i:Nat) (e:Ending) (w':World):Prop :=
  (pk L (az ld L (i+1))=39∧(∃ B m d,e=.returned (.slice B m d)∧cV w' (fun b=>w.heap.size≤b) 4 B m (gS (aM L (i+1) (az ld L (i+1))))∧m≤d∧m≤n)∧av w' C A n c L (az ld L (i+1)+1)∧bF w C w') ∨
    (pk L (az ld L (i+1))≠39∧e=aS 2 (az ld L (i+1))∧bF w C w')
theorem Kk (w:World) (C:Nat) (A:Option Addr) (n c:Nat) (L:List Int) (i:Nat) (h:av w C A n c L i) (hi:i<n) (hn:n≤100000) :
    Calls Tryz.prog 110 #[.pointer (some ⟨C,0,none⟩)] w (Mp w C A n c L i):=by
 obtain⟨i0,KQ,z0,z1,z2⟩:=info_parts zR;have hl:=h.len;have hw1:IntKind.i64.wrap ((i:Int)+1)=(i:Int)+1:=wrap_small _ (by omega) (by omega);obtain⟨d1,d2,d3,d4⟩:=h.step hi;have Uh:=qqh ((iC.start h).but d3 d4);have ep:=qqh d4;have ie:=qqh (fun(W:World) (m:Nat) (h:av W C A n c L m)=>l9 W C A n c L m h);obtain⟨r,hr⟩:∃ r,az ld L (i+1)=r:=⟨_,rfl⟩;have HR:=qqh hr;unfold Mp;rw [hr];clear h d3 d4 hr;go_enter Tryz.func110,Tryz.ntmps110;go_wp2_with fail;go_loopw [3] (fun out wr=>∃ j:Nat,i+1≤j∧j≤n∧r=az ld L j∧wr.ownsRow w.heap.size 171 4 out (j - (i+1)) (gS (aM L (i+1) j))∧iC w.heap.size wr C A n c L j∧bF w C wr) (fun _ wr=>n - (match wr.cell? ⟨C,1,none⟩with | some (.int _ j)=>j.toNat | _=>0));(case atStart=>exact⟨i+1,qql,hi,HR.out.symm,by rw [Nat.sub_self,C8];exact World.ownsRow_nil _ _ _ _,Uh.out,ep.out⟩);obtain⟨j,hij,hjn,hrun,hown,tO,AD⟩:=hrel;have HJ:=qqh tO;have HB:=qqh AD;have HO:=qqh hown;have Ij:=qqh hrun;have mC:=qqh (tO.cur.blk.cell 1);obtain⟨Av,cv,rfl,sZ⟩:=aJ hown;have hwj:IntKind.i64.wrap ((j:Int)+1)=(j:Int)+1:=wrap_small _ (by omega) (by omega);obtain⟨x,hx⟩:∃ x,pk L j=x:=⟨_,rfl⟩;have HX:=qqh hx;have HP:=qqh (fun(W:World) (h:av W C A n c L j)=>show Calls Tryz.prog 31 #[.pointer (some ⟨C,0,none⟩)] W fun e w'=>e=.returned (.int .i32 x)∧∃ m,w'=W.drewN m by have:=ie.out W j h;rwa [hx]at this);clear tO AD hown hrun hx;by_cases yW:x=39
 ·have hj:r=j:=Ij.out.trans (cF (fun _=>by rw [HX.out,yW];rfl));have hlt:j<n:=(by rw [← hl];exact bl (by rw [HX.out];omega));subst yW;go_wp2_with fail;refine(HP.out _ HJ.out.cur).mono ?_;rintro e w3 ⟨rfl,m3,EM⟩;have lP:=qqh (HJ.out.drewN m3);have bM:=qqh (HB.out.trans (bF.drewN _ C m3));have qA:=qqh (show(World.drewN _ m3).ownsRow w.heap.size 171 4 _ _ _ from HO.out);rw [← EM]at lP bM qA;clear EM;have pJ:=qqh (cV.cC (X:=fun b=>w.heap.size≤b) qA.out (fun b hb=>(bk qA.out hb).1));obtain⟨s1,s2,s3,s4⟩:=lP.out.cur.step hlt;have Dr:=qqh s3;have dS:=qqh (bM.out.trans s4);have hCl:=lP.out.lt;have ab4:=qqh (pJ.out.keep (s4.keeps (X':=fun b=>w.heap.size≤b) (fun b h=>by omega) (fun b h _=>h)));clear s3 s4;have ZX:=qqh hj;clear hj;go_wp2_with fail;go_ret;left;rw [ZX.out];exact⟨HX.out,⟨Av,_,cv,rfl,ab4.out,sZ,by omega⟩,Dr.out,dS.out⟩
 have ae9:(x != 39)=true:=(by simp;exact yW);by_cases hneg:x<0
 ·have hj:r=j:=Ij.out.trans (cF (fun _=>by rw [HX.out];unfold ld;rw [decide_eq_false (by omega)];rfl));have ZX:=qqh hj;have C7:=qqh (show pk L j≠39 by rw [HX.out];exact yW);clear hj yW;go_wp2_with fail;refine(HP.out _ HJ.out.cur).mono ?_;rintro e w3 ⟨rfl,m3,EM⟩;have lP:=qqh (HJ.out.drewN m3);have bM:=qqh (HB.out.trans (bF.drewN _ C m3));have qA:=qqh (show(World.drewN _ m3).ownsRow w.heap.size 171 4 _ _ _ from HO.out);rw [← EM]at lP bM qA;clear EM;go_wp2_with fail;refine(HP.out _ lP.out.cur).mono ?_;rintro e w4 ⟨rfl,m4,XN⟩;have Fh:=qqh (lP.out.drewN m4);have dS:=qqh (bM.out.trans (bF.drewN _ C m4));have oU:=qqh (show(World.drewN _ m4).ownsRow w.heap.size 171 4 _ _ _ from qA.out);rw [← XN]at Fh dS oU;clear XN;have k1:=Fh.out.cur.blk.cell 1;go_wp2_with fail;refine(bT 2 j _).mono ?_;rintro e w5 ⟨rfl,rfl⟩;go_wp2_with fail;rw [ZX.out];exact⟨rfl,.inr ⟨C7.out,rfl,dS.out⟩⟩
 have hge:decide (x<0)=false:=decide_eq_false hneg;have hlt:j<n:=(by rw [← hl];exact bl (by rw [HX.out];omega));have KV:=qqh (Ij.out.trans (dL (p:=ld) (by omega) (by rw [HX.out];unfold ld;simp;omega)));have zj:=qqh (show gS (aM L (i+1) (j+1))=gS (aM L (i+1) j)++[.int .i64 1,.int .i32 x,.slice none 0 0,.string ⟨#[]⟩] by rw [Cq hij (by omega),DC,HX.out]);clear yW hneg;go_wp2_with fail;refine(HP.out _ HJ.out.cur).mono ?_;rintro e w3 ⟨rfl,m3,EM⟩;have lP:=qqh (HJ.out.drewN m3);have bM:=qqh (HB.out.trans (bF.drewN _ C m3));have qA:=qqh (show(World.drewN _ m3).ownsRow w.heap.size 171 4 _ _ _ from HO.out);rw [← EM]at lP bM qA;clear EM;go_wp2_with fail;refine(HP.out _ lP.out.cur).mono ?_;rintro e w4 ⟨rfl,m4,XN⟩;have Fh:=qqh (lP.out.drewN m4);have dS:=qqh (bM.out.trans (bF.drewN _ C m4));have oU:=qqh (show(World.drewN _ m4).ownsRow w.heap.size 171 4 _ _ _ from qA.out);rw [← XN]at Fh dS oU;clear XN;have Dj:=qqh (fun(W:World)=>Rd.new W 171 4 1 [.int .i64 1,.int .i32 x,.slice none 0 0,.string ⟨#[]⟩] rfl);go_wp2_with fail;refine(HP.out _ Fh.out.cur).mono ?_;rintro e w5 ⟨rfl,m5,KJ⟩;have GO:=qqh (Fh.out.drewN m5);have dG:=qqh (dS.out.trans (bF.drewN _ C m5));have oH:=qqh (show(World.drewN _ m5).ownsRow w.heap.size 171 4 _ _ _ from oU.out);rw [← KJ]at GO dG oH;clear KJ;have AG:=qqh (World.ownsRow.alloc oH.out (.cells #[.int .i64 1,.int .i32 x,.slice none 0 0,.string ⟨#[]⟩] 171));have eG:=(Below.refl w5.heap.size w5).alloc qql (.cells #[.int .i64 1,.int .i32 x,.slice none 0 0,.string ⟨#[]⟩] 171);have KJ:=dG.out.1;have gT:=qqh (bF.below (w:=w5) C eG)
 have nx:=qqh (dG.out.trans gT.out);have BM:=qqh (GO.out.below (eG.mono KJ));have hsz:=nx.out.1;clear eG;go_wp2_with (at_builtin;refine ai _ rfl (.tmp 29) (.tmp 35) 82 rfl w.heap.size 171 i0 _ 4 56 Tryz.underlying82 KQ z0 z1 z2 rfl (by decide) _ _ _ rfl AG.out (w5.heap.size+1) (some ⟨w5.heap.size,0,none⟩) 1 1 [.int .i64 1,.int .i32 x,.slice none 0 0,.string ⟨#[]⟩] rfl (Dj.out w5) (QS x) (by simp only [maxLen];omega) (by omega) hsz ?_);intro v' w9 ak;have cN:=ak.below hsz AG.out;have Ia:=qqh (BM.out.below cN);have eF:=qqh (fe nx.out cN);have ir:=qqh (show w9.ownsRow w.heap.size 171 4 v' (j+1 - (i+1)) (gS (aM L (i+1) (j+1))) by
  have:=ak.own;rw [zj.out,show j+1 - (i+1)=j - (i+1)+1 by omega];exact this)
 clear ak cN;obtain⟨s1,s2,s3,s4⟩:=Ia.out.cur.step hlt;have HJA:=qqh (Ia.out.but s3 s4);have Ad:=qqh (eF.out.trans s4);have hCl:=Ia.out.lt;obtain⟨A9,c9,rfl,_⟩:=aJ ir.out;have KP:=qqh (ownsRow_setCell_below ir.out (a:=⟨C,1,none⟩) hCl (.int .i64 ((j:Int)+1)));clear s3 s4;go_wp2_with fail;refine⟨⟨j+1,by omega,hlt,KV.out,KP.out,HJA.out,Ad.out⟩,?_⟩;have e1:(w9.setCell ⟨C,1,none⟩ (.int .i64 ((j:Int)+1))).cell? ⟨C,1,none⟩=some (.int .i64 ((j+1:Nat):Int)):=HJA.out.cur.blk.cell 1;have e2:wr.cell? ⟨C,1,none⟩=some (.int .i64 (j:Int)):=mC.out;rw [e1,e2];simp only [Int.toNat_natCast];omega
def gV (w:World) (X:Nat→Prop) (a:aF) (cs:List Value):Prop :=
  ∃ A n c,cs = [.int .i64 a.kind,.int .i32 a.rune,.slice A n c,.string a.name]∧cV w X 2 A n (an a.set)∧n≤c∧n≤maxLen
theorem gV.keep {w w':World} {X X':Nat→Prop} (hk:ag w X w' X') (a:aF) (cs:List Value) (h:gV w X a cs):gV w' X' a cs:=by
 obtain⟨A,n,c,e,h1,h2⟩:=h;exact⟨A,n,c,e,h1.keep hk,h2⟩
theorem gV.one {w:World} {X:Nat→Prop} {a:aF} {cs:List Value} (h:gV w X a cs):∀ u∈cs,u.oneCell'=true:=by
 obtain⟨A,n,c,rfl,_⟩:=h;intro u hu;simp at hu;rcases hu with rfl | rfl | rfl | rfl <;> rfl
def xO (lo C:Nat) (v:Value) (b:Nat):Prop:=lo≤b∧b≠C∧v.ownBlock≠some b
def gu (lo C:Nat) (w:World) (v:Value) (l:List aF):Prop:=dy (gV w (xO lo C v)) 171 4 w lo v l
theorem Hq {w w':World} {C base sz n:Nat} {e:TypeId} {v:Value} {xs:List Value} (h:w.ownsRow base e sz v n xs) (hb:bF w C w') (hC:C<base):w'.ownsRow base e sz v n xs:=by
 refine⟨h.1,?_⟩;rcases h.2 with h2 | ⟨g,cap,cur,hv,hg,hh,r⟩;exact .inl h2;exact .inr ⟨g,cap,cur,hv,hg,(hb.2.2.2.2 g (Array.getElem?_eq_some_iff.1 hh).1 (by omega)).trans hh,r⟩
theorem gu.but {lo C:Nat} {w w':World} {v:Value} {l:List aF} (h:gu lo C w v l) (hb:bF w C w') (hC:C<lo):gu lo C w' v l :=
  dy.kept (fun _ _ ho=>Hq ho hb hC) (gV.keep (hb.keeps (fun _ h=>h.2.1) (fun _ h _=>h))) h
theorem Bj {lo C m sz:Nat} {e:TypeId} {v v':Value} {ys:List Value} {w w2:World} (ha:aP lo e sz v w m ys v' w2):ag w (xO lo C v) w2 (xO lo C v'):=by
 refine ag.app ha (fun b hb=>hb.2.2) (fun b hb hl=>⟨hb.1,hb.2.1,?_⟩);rcases ha.2.2 with e | e
 ·rw [e];exact hb.2.2
 rw [e];intro h;injection h with h;omega
theorem gu.push {lo C:Nat} {w:World} {v:Value} {l:List aF} (h:gu lo C w v l) (a:aF) {cs:List Value} (ha:gV w (xO lo C v) a cs) (hcs:cs.length=4) :
    ∃ ys,w.ownsRow lo 171 4 v l.length ys∧∀ v' w',aP lo 171 4 v w (l.length+1) (ys++cs) v' w'→gu lo C w' v' (l++[a]):=by
 obtain⟨css,h1,h2,h3,h4⟩:=h;refine⟨css.flatten,h4,fun v' w' ak=>?_⟩;have hk:ag w (xO lo C v) w' (xO lo C v'):=Bj ak;exact dy.push h1 h2 h3 (gV.keep hk) (ha.keep hk) hcs ak
def qc (x:Int):List Value:=[.int .i64 1,.int .i32 x,.slice none 0 0,.string ⟨#[]⟩]
theorem Pd (rs:List Int):(rs.map qc).flatten=gS rs:=by unfold gS;rw [List.flatMap_def];rfl
theorem Bs (w:World) (X:Nat→Prop) (x:Int):gV w X (mc x) (qc x):=⟨none,0,0,rfl,⟨rfl,fun h=>absurd h (by omega)⟩,qql,Nat.zero_le _⟩
theorem gu.Xg {lo C:Nat} {w:World} {v:Value} {l:List aF} (h:gu lo C w v l) (rs:List Int) :
    ∃ ys,w.ownsRow lo 171 4 v l.length ys∧∀ v' w',aP lo 171 4 v w (l.length+rs.length) (ys++gS rs) v' w'→gu lo C w' v' (l++rs.map mc):=by
 obtain⟨css,h1,h2,h3,h4⟩:=h;refine⟨css.flatten,h4,fun v' w' ak=>?_⟩;have hk:ag w (xO lo C v) w' (xO lo C v'):=Bj ak;refine⟨css++rs.map qc,by simp [h1],?_,?_,?_⟩
 ·intro i a cs ha hc;rcases Nat.lt_or_ge i l.length with hi | hi
  ·rw [List.getElem?_append_left hi]at ha;rw [List.getElem?_append_left (by omega)]at hc;exact gV.keep hk a cs (h2 i a cs ha hc)
  rw [List.getElem?_append_right hi,List.getElem?_map]at ha;rw [List.getElem?_append_right (by omega),h1,List.getElem?_map]at hc;cases hx:rs[i - l.length]? with
  | none=>rw [hx]at ha;cases ha
  | some x=>
   rw [hx]at ha hc;obtain rfl:=Option.some.inj ha;obtain rfl:=Option.some.inj hc;exact Bs w' _ x
 ·intro cs hc;rcases List.mem_append.1 hc with hc | hc;exact h3 cs hc;obtain⟨x,_,rfl⟩:=List.mem_map.1 hc;rfl
 have:=ak.own;rw [List.flatten_append,Pd,List.length_append,List.length_map];exact this
theorem gu.form {lo C:Nat} {w:World} {v:Value} {l:List aF} (h:gu lo C w v l):∃ A c,v=.slice A l.length c∧l.length≤c:=dy.form h
theorem gu.nil (lo C:Nat) (w:World):gu lo C w (.slice none 0 0) []:=dy.nil _ _
theorem gu.below {lo C:Nat} {w w':World} {v:Value} {l:List aF} (h:gu lo C w v l) (hb:Below w.heap.size w w'):gu lo C w' v l :=
  dy.kept (fun _ _ ho=>dF ho hb) (gV.keep (ag.any hb)) h
theorem gu.apart {lo C:Nat} {w:World} {v:Value} {l:List aF} (h:gu lo C w v l) {b:Nat} (hb:w.heap.size≤b):v.ownBlock≠some b:=by
 obtain⟨css,h1,h2,h3,h4⟩:=h;intro e;have:=(bk h4 e).2;omega
def WK (p:Int→Bool) (w:World) (C:Nat) (A:Option Addr) (n c:Nat) (L:List Int) (a r:Nat) (wr:World):Prop :=
  ∃ j,a≤j∧j≤n∧r=az p L j∧av wr C A n c L j∧bF w C wr
theorem I9 {L:List Int} {i r:Nat} (hr:az cQ L (i+2)=r) (h:gE (aM L (i+2) r)=none):eN L i=.error (7,i+2):=by subst hr;unfold eN;rw [h]
theorem Ku {L:List Int} {i r:Nat} {s:aa} {e:Int × Nat} (hr:az cQ L (i+2)=r) (h:gE (aM L (i+2) r)=some s) (h2:aQ L r 58=.error e):eN L i=.error e:=by subst hr;unfold eN;rw [h];simp only;rw [h2]
theorem IY {L:List Int} {i r j:Nat} {s:aa} {e:Int × Nat} (hr:az cQ L (i+2)=r) (h:gE (aM L (i+2) r)=some s) (h2:aQ L r 58=.ok j) (h3:aQ L j 93=.error e):eN L i=.error e:=by subst hr;unfold eN;rw [h];simp only;rw [h2];simp only;rw [h3]
theorem Ma {L:List Int} {i r j k:Nat} {s:aa} (hr:az cQ L (i+2)=r) (h:gE (aM L (i+2) r)=some s) (h2:aQ L r 58=.ok j) (h3:aQ L j 93=.ok k):eN L i=.ok (s,k):=by subst hr;unfold eN;rw [h];simp only;rw [h2];simp only;rw [h3]
theorem sS (l:List Int) (h:l.length≤4611686018427387904) (h2:l.length≤100000):(runesBytes l).size≤maxLen:=by
 have:=runesBytes_size_le l;simp only [maxLen];omega
theorem JP (w:World) (C:Nat) (A:Option Addr) (n c:Nat) (L:List Int) (i:Nat) (h:av w C A n c L i) (hL:fZ L) (hi:i+2≤n) (hn:n≤100000) :
    Calls Tryz.prog 82 #[.pointer (some ⟨C,0,none⟩)] w (eo w C A n c L (eN L i)):=by
 have hs:=h.size;have hlen:=h.len;obtain⟨b,off,rfl,_,_⟩:=h.at (by omega);have HL:=qqh hL;have c0:=h.blk.cell 0;have c1:=h.blk.cell 1;have f1:=h.blk.frozen 1;have hw1:IntKind.i64.wrap ((i:Int)+2)=(i:Int)+2:=wrap_small _ (by omega) (by omega);have hm:=h.move (j:=i+2) hi;have SH:=bF.set w C 1 (.int .i64 ((i+2:Nat):Int));rw [show(((i+2:Nat)):Int)=(i:Int)+2 by omega]at hm SH;have HM:=qqh hm;have bJ:=qqh SH;obtain⟨R,hR⟩:∃ R,eN L i=R:=⟨_,rfl⟩;rw [hR];have fQ:=qqh hR;clear hL hm h SH hR;obtain⟨r,hr⟩:∃ r,az cQ L (i+2)=r:=⟨_,rfl⟩;have lH:=qqh hr;have hi2:((i+2:Nat):Int)=(i:Int)+2:=(by omega);obtain⟨a,ha⟩:∃ a,i+2=a:=⟨_,rfl⟩;have haI:(i:Int)+2=(a:Int):=(by omega);have HA:=qqh ha;rw [haI]at HM bJ hw1;rw [ha]at HM;clear hr hi2;go_enter Tryz.func82,Tryz.ntmps82;go_wp2_with fail;go_loopw [17] (fun _ wr=>WK cQ w C (some ⟨b,off,none⟩) n c L a r wr) (fun _ wr=>n - (match wr.cell? ⟨C,1,none⟩with | some (.int _ j)=>j.toNat | _=>0));(case atStart=>exact⟨a,qql,HM.out.le,by rw [← lH.out,HA.out],HM.out,bJ.out⟩);obtain⟨j,haj,hj,hrun,tO,AD⟩:=hrel;have HJ:=qqh tO;have HB:=qqh AD;have HR:=qqh hrun;have ie:=qqh (fun(W:World) (h:av W C (some ⟨b,off,none⟩) n c L j)=>cG W C (some ⟨b,off,none⟩) n c L j h);have mC:=qqh (tO.blk.cell 1);have qB:=qqh (fun(W:World)=>oI (pk L j) W (HL.out.pk j));clear tO AD hrun;by_cases Am:cQ (pk L j)=true
 ·rw [Am]at qB;have hlt:j<L.length:=bl (fun e=>by rw [e]at Am;exact absurd Am (by decide));have CS:IntKind.i64.wrap ((j:Int)+1)=(j:Int)+1:=wrap_small _ (by omega) (by omega);go_wp2_with fail;refine(ie.out _ HJ.out).mono ?_;rintro e w2 ⟨rfl,hc2,aX⟩;have ox:=qqh hc2;have bL:=qqh (HB.out.trans aX);clear hc2 aX;go_wp2_with fail;refine(qB.out _).mono ?_;rintro e w3 ⟨rfl,bP⟩;have qE:=qqh (ox.out.below bP);have bM:=qqh (bL.out.trans (bF.below C bP));clear bP;obtain⟨d1,d2,d3,d4⟩:=qE.out.step (by omega);have uC:=qqh d3;have dS:=qqh (bM.out.trans d4);clear d3 d4;go_wp2_with fail;refine⟨⟨j+1,by omega,by omega,HR.out.trans (dL hlt Am),uC.out,dS.out⟩,?_⟩;have e1:(w3.setCell ⟨C,1,none⟩ (.int .i64 ((j:Int)+1))).cell? ⟨C,1,none⟩=some (.int .i64 ((j+1:Nat):Int)):=uC.out.blk.cell 1;have e2:wr.cell? ⟨C,1,none⟩=some (.int .i64 (j:Int)):=mC.out;rw [e1,e2];simp only [Int.toNat_natCast];omega
 rw [Bool.not_eq_true]at Am;rw [Am]at qB;obtain rfl:r=j:=HR.out.trans (cF (fun _=>Am));clear HR;go_wp2_with fail;refine(ie.out _ HJ.out).mono ?_;rintro e w2 ⟨rfl,hc2,aX⟩;have ox:=qqh hc2;have bL:=qqh (HB.out.trans aX);clear hc2 aX;go_wp2_with fail;refine(qB.out _).mono ?_;rintro e w3 ⟨rfl,bP⟩;have qE:=qqh (ox.out.below bP);have bM:=qqh (bL.out.trans (bF.below C bP));have KG:=qqh (show Below w3.heap.size w3 w3.drew from qqb.drew);clear bP;have d0:=qE.out.blk.cell 0;have d1:=qE.out.blk.cell 1;have sZ:=vv (qE.out.drewN 1) haj hj;have hk1:(a:Int)≤(r:Int):=(by omega);have hk2:(r:Int)≤(c:Int):=(by have:=qE.out.cap;omega);have QM:(0:Int)≤(a:Int):=(by omega);have hts:(runesBytes (aM L a r)).size≤maxLen:=sS _ (by unfold aM;rw [List.length_take];omega) (by unfold aM;rw [List.length_take];omega);have HCT:=qqh (FY (aM L a r));generalize runesBytes (aM L a r)=T at *;have xX:=qqh (fun(W:World)=>Ip T W hts);clear hts;cases FX:gE (aM L a r)with
 | none=>
  have HT:=qqh (HCT.out.trans FX);have lV:=qqh (show R=.error (7,i+2) from fQ.out.symm.trans (I9 lH.out (by rw [HA.out];exact FX)));clear FX;go_upto_region 5 with fail;refine ay (S:=(fun w'=>w'.cell? ⟨C,0,none⟩=some (.slice (some ⟨b,off,none⟩) n c)∧w'.cell? ⟨C,1,none⟩=some (.int .i64 r)∧(convert 24 9 (.slice (if c=a then some ⟨b,off,none⟩else some ⟨b,off+a,none⟩) (r - a) (c - a))).run Tryz.prog w'=.ok (.string T) w')) [3,8,10] (by kernel_rfl) ⟨d0,d1,sZ⟩ (fun aU=>?_);refine tq 0 28 ?_;(try simp only [zp,za,z0,zs]);refine tq 1 29 ?_;(try simp only [zp,za,z0,zs]);refine tq 2 30 ?_;(try simp only [zp,za,z0,zs]);refine tu 3 31 ?_;(try simp only [zp,za,z0,zs]);refine tq 4 32 ?_;(try simp only [zp,za,z0,zs]);refine tq 5 33 ?_;(try simp only [zp,za,z0,zs]);refine tq 6 34 ?_;(try simp only [zp,za,z0,zs]);refine tq 7 35 ?_;(try simp only [zp,za,z0,zs]);refine tu 8 36 ?_;(try simp only [zp,za,z0,zs]);refine tq 9 37 ?_;(try simp only [zp,za,z0,zs]);refine tu 10 38 ?_;(try simp only [zp,za,z0,zs]);refine aC (i:=11) (o:=⟨some 39,_,_,_,_,_⟩) (by kernel_rfl) rfl (by kernel_rfl) (fun K hK=>?_);go_simp;go_at_call 104;refine(xX.out _).mono ?_;rintro e w6 DU;unfold og at DU;rw [HT.out]at DU;obtain⟨rfl,eG⟩:=DU;(try dsimp only);refine hK.out _ _ ?_;clear hK K;(try simp only [zp,za,z0,zs]);refine tq 12 27 ?_;(try simp only [zp,za,z0,zs]);refine tq 13 40 ?_;(try simp only [zp,za,z0,zs]);refine tq 14 41 ?_;(try simp only [zp,za,z0,zs]);refine tq 15 4 ?_;(try simp only [zp,za,z0,zs]);refine tq 16 5 ?_;(try simp only [zp,za,z0,zs]);refine aK (by kernel_rfl) ?_ _;generalize (if c=a then some ({ block:=b,off:=off }:Addr)else some { block:=b,off:=off+a })=Z;have gT:=qqh (bM.out.trans (bF.below C (KG.out.trans (Below.mono eG qql))))
  have HF:=qqh (fun(W:World)=>bT 7 a W);clear eG;go_simp;go_wp2_with fail;refine(HF.out _).mono ?_;rintro e w7 ⟨rfl,rfl⟩;go_wp2_with fail;rw [lV.out,HA.out];exact⟨rfl,rfl,gT.out⟩
 | some s=>
  have HT:=qqh (HCT.out.trans FX);have SI:=qqh (show gE (aM L (i+2) r)=some s by rw [HA.out];exact FX);clear FX;go_upto_region 5 with fail;refine ay (S:=(fun w'=>w'.cell? ⟨C,0,none⟩=some (.slice (some ⟨b,off,none⟩) n c)∧w'.cell? ⟨C,1,none⟩=some (.int .i64 r)∧(convert 24 9 (.slice (if c=a then some ⟨b,off,none⟩else some ⟨b,off+a,none⟩) (r - a) (c - a))).run Tryz.prog w'=.ok (.string T) w')) [3,8,10] (by kernel_rfl) ⟨d0,d1,sZ⟩ (fun aU=>?_);refine tq 0 28 ?_;(try simp only [zp,za,z0,zs]);refine tq 1 29 ?_;(try simp only [zp,za,z0,zs]);refine tq 2 30 ?_;(try simp only [zp,za,z0,zs]);refine tu 3 31 ?_;(try simp only [zp,za,z0,zs]);refine tq 4 32 ?_;(try simp only [zp,za,z0,zs]);refine tq 5 33 ?_;(try simp only [zp,za,z0,zs]);refine tq 6 34 ?_;(try simp only [zp,za,z0,zs]);refine tq 7 35 ?_;(try simp only [zp,za,z0,zs]);refine tu 8 36 ?_;(try simp only [zp,za,z0,zs]);refine tq 9 37 ?_;(try simp only [zp,za,z0,zs]);refine tu 10 38 ?_;(try simp only [zp,za,z0,zs]);refine aC (i:=11) (o:=⟨some 39,_,_,_,_,_⟩) (by kernel_rfl) rfl (by kernel_rfl) (fun K hK=>?_);go_simp;go_at_call 104;refine(xX.out _).mono ?_;rintro e w6 DU;unfold og at DU;rw [HT.out]at DU;obtain⟨⟨A6,n6,c6,rfl,P6,CT⟩,eG⟩:=DU;(try dsimp only);refine hK.out _ _ ?_;clear hK K;(try simp only [zp,za,z0,zs]);refine tq 12 27 ?_;(try simp only [zp,za,z0,zs]);refine tq 13 40 ?_;(try simp only [zp,za,z0,zs]);refine tq 14 41 ?_;(try simp only [zp,za,z0,zs]);refine tq 15 4 ?_;(try simp only [zp,za,z0,zs]);refine tq 16 5 ?_;(try simp only [zp,za,z0,zs]);refine aK (by kernel_rfl) ?_ _;generalize (if c=a then some ({ block:=b,off:=off }:Addr)else some { block:=b,off:=off+a })=Z;have Ix:=qqh ((qE.out.drewN 1).below eG)
  have gT:=qqh (bM.out.trans (bF.below C (KG.out.trans (Below.mono eG qql))));have T3:=qqh (P6.lift (X':=fun b=>b≠C∧w.heap.size≤b) (fun b h=>⟨fun e=>by have:=qE.out.blk.lt;have h2:w3.heap.size≤b:=h;omega,Nat.le_trans bM.out.1 h⟩));clear eG P6;have HN:=qqh (fc w6 C _ n c L r 58 Ix.out (by decide));go_simp;cases hn:aQ L r 58 with
  | error e0=>
   obtain⟨x,p⟩:=e0;rw [hn]at HN;have lV:=qqh (fQ.out.symm.trans (Ku lH.out SI.out hn));clear hn;go_wp2_with fail;refine HN.out.mono ?_;rintro e w7 ⟨he,hb⟩;unfold aS at he;subst he;have kR:=qqh (gT.out.trans hb);clear hb;go_wp2_with fail;rw [lV.out];exact⟨rfl,rfl,kR.out⟩
  | ok j2=>
   rw [hn]at HN;have OB:=qqh hn;clear hn;go_wp2_with fail;refine HN.out.mono ?_;rintro e w7 ⟨rfl,hc,hb⟩;have KL:=qqh hc;have kR:=qqh (gT.out.trans hb);have HR7:=qqh (T3.out.keep (hb.keeps (X':=fun b=>b≠C∧w.heap.size≤b) (fun b h=>h.1) (fun b h _=>h)));clear hb hc;have F9:=qqh (fc w7 C _ n c L j2 93 KL.out (by decide));cases hn:aQ L j2 93 with
   | error e0=>
    obtain⟨x,p⟩:=e0;rw [hn]at F9;have lV:=qqh (fQ.out.symm.trans (IY lH.out SI.out OB.out hn));clear hn;go_wp2_with fail;refine F9.out.mono ?_;rintro e w8 ⟨he,hb⟩;unfold aS at he;subst he;have qM:=qqh (kR.out.trans hb);clear hb;go_wp2_with fail;rw [lV.out];exact⟨rfl,rfl,qM.out⟩
   | ok k2=>
    rw [hn]at F9;have lV:=qqh (fQ.out.symm.trans (Ma lH.out SI.out OB.out hn));clear hn;go_wp2_with fail;refine F9.out.mono ?_;rintro e w8 ⟨rfl,hc,hb⟩;have SX:=qqh hc;have qM:=qqh (kR.out.trans hb);have HR8:=qqh (HR7.out.keep (hb.keeps (X':=fun b=>w.heap.size≤b) (fun b h=>h.1) (fun b h _=>h.2)));clear hb hc;go_wp2_with fail;go_ret;rw [lV.out];exact⟨⟨A6,n6,c6,rfl,HR8.out,CT⟩,SX.out,qM.out⟩
theorem av.apart {w:World} {C G:Nat} {A:Option Addr} {n c:Nat} {L:List Int} {i:Nat} {t:TypeId} {v:Value} (h:av w C A n c L i) (hG:aj w G t #[v]) (hv:∀ x,v≠.int .i32 x):cV w (fun b=>b≠C∧b≠G) 1 A n (runeCells L):=by
 refine⟨h.row.1,fun hn=>?_⟩;obtain⟨b,off,e,hb,hl,hc⟩:=h.row.2 hn;refine⟨b,off,e,⟨hb,fun he=>?_⟩,hl,hc⟩;subst he;have hlen:=h.len;obtain⟨x,hx⟩:∃ x,L[0]? = some x:=⟨_,List.getElem?_eq_getElem (by omega)⟩;have h1:=hc 0 (.int .i32 x) (by rw [dU,hx];rfl);rw [hG.cell]at h1;rcases off with _ | off
 ·simp at h1;exact hv x h1
 simp at h1
theorem av.set {w:World} {C G:Nat} {A:Option Addr} {n c:Nat} {L:List Int} {i:Nat} {t:TypeId} {v:Value} (h:av w C A n c L i) (hG:aj w G t #[v]) (hv:∀ x,v≠.int .i32 x) (hne:C≠G) (u:Value):av (w.setCell ⟨G,0,none⟩ u) C A n c L i:=by
 have hk:bF w G (w.setCell ⟨G,0,none⟩ u):=bF.set _ _ _ _;exact⟨h.blk.same (hk.2.2.2.2 C h.blk.lt hne),(h.apart hG hv).keep (hk.keeps (fun b h=>h.2) (fun b h _=>h.1)),h.size,h.le,h.cap⟩
structure eW (w:World) (C P G:Nat) (A:Option Addr) (n c:Nat) (L:List Int) (j:Nat) (s:aa) (wr:World):Prop where
  cur:av wr C A n c L j
  box:aj wr P 115 #[.pointer (some ⟨C,0,none⟩)]
  set:∃ B m d,aj wr G 22 #[.slice B m d]∧cV wr (fun b=>b≠C∧b≠P∧b≠G∧w.heap.size≤b) 2 B m (an s)∧m≤d
  right:aH s
  but:bF w C wr
  lo:C<w.heap.size∧w.heap.size≤P∧w.heap.size≤G∧P≠G
section
variable {w wr w' : World} {C P G : Nat} {A : Option Addr} {n c : Nat} {L : List Int} {j : Nat} {s : aa}
theorem eW.iZ (h:eW w C P G A n c L j s wr) (hb:bF wr C w') {k:Nat} (hc:av w' C A n c L k):eW w C P G A n c L k s w':=by
 obtain⟨B,m,d,h1,h2,h3⟩:=h.set;obtain⟨l1,l2,l3,l4⟩:=h.lo;exact⟨hc,(hb.2.2.2.2 P h.box.lt (by omega)).trans h.box,⟨B,m,d,(hb.2.2.2.2 G h1.lt (by omega)).trans h1,h2.keep (hb.keeps (fun b h=>h.1) (fun b h _=>h)),h3⟩,h.right,h.but.trans hb,h.lo⟩
theorem eW.below (h:eW w C P G A n c L j s wr) (hb:Below wr.heap.size wr w'):eW w C P G A n c L j s w':=h.iZ (bF.below C hb) (h.cur.below hb)
theorem eW.drew (h:eW w C P G A n c L j s wr):eW w C P G A n c L j s wr.drew:=h.below (qqb.drew)
theorem eW.put (h:eW w C P G A n c L j s wr) {t:aa} {B:Option Addr} {m d:Nat} (hr:cV wr (fun b=>b≠C∧b≠P∧b≠G∧w.heap.size≤b) 2 B m (an t)) (hd:m≤d) (ht:aH t) :
    eW w C P G A n c L j t (wr.setCell ⟨G,0,none⟩ (.slice B m d)):=by
 obtain⟨B0,m0,d0,h1,h2,h3⟩:=h.set;obtain⟨l1,l2,l3,l4⟩:=h.lo;have hk:bF wr G (wr.setCell ⟨G,0,none⟩ (.slice B m d)):=bF.set _ _ _ _;refine⟨h.cur.set h1 (fun x e=>by cases e) (by omega) _,(hk.2.2.2.2 P h.box.lt l4).trans h.box,⟨B,m,d,h1.put 0 _,hr.keep (hk.keeps (fun b h=>h.2.2.1) (fun b h _=>h)),hd⟩,ht,?_,h.lo⟩;exact⟨Nat.le_trans h.but.1 hk.1,hk.2.1.trans h.but.2.1,hk.2.2.1.trans h.but.2.2.1,hk.2.2.2.1.trans h.but.2.2.2.1,fun b hb hne=>(hk.2.2.2.2 b (Nat.lt_of_lt_of_le hb h.but.1) (by omega)).trans (h.but.2.2.2.2 b hb hne)⟩
end
theorem eW.arg {w wr:World} {C P G:Nat} {A:Option Addr} {n c:Nat} {L:List Int} {j:Nat} {s:aa} (h:eW w C P G A n c L j s wr) {B:Option Addr} {m d:Nat} (hb:aj wr G 22 #[.slice B m d]):bU wr B m d s:=by
 obtain⟨B0,m0,d0,h1,h2,h3⟩:=h.set;have e : #[Value.slice B m d] = #[.slice B0 m0 d0]:=by
  unfold aj at hb h1;rw [hb]at h1;injection h1 with h1;injection h1
 have e2:Value.slice B m d=.slice B0 m0 d0:=(by simpa using e);cases e2;exact⟨h.right,h2.of,h3⟩
theorem eW.part {w wx w1:World} {C P G:Nat} {A:Option Addr} {n c:Nat} {L:List Int} {j j2:Nat} {s t:aa} {e:Ending} (h:eW w C P G A n c L j s wx) (ht:aH t) (hp:eo wx C A n c L (.ok (t,j2)) e w1) :
    ∃ B m d,e=.returned (.slice B m d)∧eW w C P G A n c L j2 s w1∧bU w1 B m d t∧bF wx C w1:=by
 obtain⟨⟨B,m,d,rfl,hr,hd⟩,hc,hb⟩:=hp;exact⟨B,m,d,rfl,h.iZ hb hc,⟨ht,hr.of,hd⟩,hb⟩
theorem eW.mA {w wx w1:World} {C P G:Nat} {A:Option Addr} {n c:Nat} {L:List Int} {j:Nat} {s:aa} {cs:Array Value} {t:TypeId} (h:eW w C P G A n c L j s wx) (hb:bF wx C w1) (hG:aj wx G t cs):aj w1 G t cs :=
  (hb.2.2.2.2 G hG.lt (by have:=h.lo;omega)).trans hG
theorem eW.ff {w wx:World} {C P G:Nat} {A:Option Addr} {n c:Nat} {L:List Int} {j:Nat} {s:aa} (h:eW w C P G A n c L j s wx):wx.cell? ⟨P,0,none⟩=some (.pointer (some ⟨C,0,none⟩)):=h.box.cell 0
theorem eW.op {w w1 w2:World} {C P G:Nat} {A:Option Addr} {n c:Nat} {L:List Int} {j:Nat} {s:aa} {r:aa × Int} {e:Ending} (h:eW w C P G A n c L j s w1) (hp:bR w1 r e w2) :
    ∃ B m d,e=.returned (.tuple #[.slice B m d,.int .i64 r.2])∧eW w C P G A n c L j s w2∧cV w2 (fun b=>b≠C∧b≠P∧b≠G∧w.heap.size≤b) 2 B m (an r.1)∧m≤d∧Below w1.heap.size w1 w2:=by
 obtain⟨B,m,d,rfl,h1,_,h2,h3⟩:=hp;refine⟨B,m,d,rfl,h.below h3,h1.lift (fun b hb=>?_),h2,h3⟩;obtain⟨B0,m0,d0,g1,_⟩:=h.set;have l1:=h.cur.blk.lt;have l2:=h.box.lt;have l3:=g1.lt;have l4:=h.but.1;exact⟨by omega,by omega,by omega,by omega⟩
theorem om (B:Option Addr) (m d P G:Nat) (v:Value) (w:World) (hG:aj w G 22 #[v]) :
    Calls Tryz.prog 80 (#[.slice B m d,.int .i64 0] ++ #[.pointer (some ⟨P,0,none⟩),.pointer (some ⟨G,0,none⟩)]) w fun e w'=>e=.returned (.tuple #[])∧w'=w.setCell ⟨G,0,none⟩ (.slice B m d):=by
 have c0:=hG.cell 0;have f0:=hG.frozen 0;clear hG;go_enter Tryz.func80,Tryz.ntmps80;go_wp2_with fail;go_end0;exact⟨rfl,rfl⟩
theorem mH (B:Option Addr) (m d C P G:Nat) (A:Option Addr) (n c:Nat) (L:List Int) (j:Nat) (x:Int) (w:World) (hx:x≠0) (hP:aj w P 115 #[.pointer (some ⟨C,0,none⟩)]) (hC:av w C A n c L j) :
    Calls Tryz.prog 80 (#[.slice B m d,.int .i64 x] ++ #[.pointer (some ⟨P,0,none⟩),.pointer (some ⟨G,0,none⟩)]) w fun e w'=>e=aS x j∧w'=w:=by
 have c0:=hP.cell 0;have d0:=hC.blk.cell 1;have hx2:(x != 0)=true:=(by simp;exact hx);have HF:=qqh (fun(W:World)=>bT x j W);clear hP hC hx;go_enter Tryz.func80,Tryz.ntmps80;go_wp2_with fail;refine(HF.out _).mono ?_;rintro e w3 ⟨rfl,rfl⟩;go_wp2_with fail;exact⟨rfl,rfl,rfl⟩
end Go.Proofs.YtblinekbpcdbfaaGreatDoor
