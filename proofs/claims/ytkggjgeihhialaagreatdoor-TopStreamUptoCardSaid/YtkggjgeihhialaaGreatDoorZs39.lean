/- RdQuoted + RdFr + CurClass + SetFr -/
import Derived.Test.YtkggjgeihhialaaGreatDoorZs38
import Derived.Test.YtkggjgeihhialaaGreatDoorZs14
import Derived.Test.YtkggjgeihhialaaGreatDoorZs22
set_option maxHeartbeats 6400000
set_option maxRecDepth 100000
namespace Go.Proofs.YtkggjgeihhialaaGreatDoor
open Go.RowKit
theorem yd:(Tryz.prog.info? 172).map (fun i=>(i.zero,i.size,i.bytes))=some (some (.agg #[.int .i64 0,.int .i32 0,.slice none 0 0,.string ⟨#[]⟩]),4,56):=by kernel_rfl
def gF (l:List Int):List Value:=l.flatMap fun x=>[.int .i64 1,.int .i32 x,.slice none 0 0,.string ⟨#[]⟩]
theorem Bg (l:List Int) (x:Int):gF (l++[x])=gF l++[.int .i64 1,.int .i32 x,.slice none 0 0,.string ⟨#[]⟩]:=by simp [gF]
theorem OK (x:Int):∀ u ∈ [Value.int .i64 1,.int .i32 x,.slice none 0 0,.string ⟨#[]⟩],u.oneCell'=true:=by
 intro u hu;simp at hu;rcases hu with rfl | rfl | rfl | rfl <;> rfl
theorem Bf {L:List Int} {a j:Nat} (ha:a≤j) (hj:j<L.length):aL L a (j+1)=aL L a j++[pk L j]:=by
 unfold aL;rw [show j+1 - a=(j - a)+1 by omega,List.take_add_one,List.getElem?_drop,show a+(j - a)=j by omega,List.getElem?_eq_getElem hj,FP (List.getElem?_eq_getElem hj)];rfl
theorem Bc (L:List Int) (a:Nat):aL L a a = []:=by unfold aL;rw [Nat.sub_self];rfl
theorem eY {w w1 w2:World} {C:Nat} (h:aZ w C w1) (hb:Below w.heap.size w1 w2):aZ w C w2 :=
  ⟨Nat.le_trans h.1 hb.size,hb.os.trans h.2.1,hb.tape.trans h.2.2.1,hb.output.trans h.2.2.2.1,fun k hk hne=>(hb.block k hk).trans (h.2.2.2.2 k hk hne)⟩
structure ia (lo:Nat) (w:World) (C:Nat) (A:Option Addr) (n c:Nat) (L:List Int) (i:Nat):Prop where
  cur:ay w C A n c L i
  row:cy w (fun b=>b≠C∧b<lo) 1 A n (runeCells L)
  lt:C<lo
theorem ia.start {w:World} {C:Nat} {A:Option Addr} {n c:Nat} {L:List Int} {i:Nat} (h:ay w C A n c L i):ia w.heap.size w C A n c L i :=
  ⟨h,h.row.keep (fun _ hX hl=>⟨rfl,⟨hX,hl⟩,hl⟩),h.blk.lt⟩
theorem ia.but {lo:Nat} {w w':World} {C:Nat} {A:Option Addr} {n c:Nat} {L:List Int} {i j:Nat} (h:ia lo w C A n c L i) (hc:ay w' C A n c L j) (hb:aZ w C w'):ia lo w' C A n c L j :=
  ⟨hc,h.row.keep (hb.keeps (fun _ h=>h.1) (fun _ h _=>h)),h.lt⟩
theorem ia.below {lo:Nat} {w w':World} {C:Nat} {A:Option Addr} {n c:Nat} {L:List Int} {i:Nat} (h:ia lo w C A n c L i) (hb:Below lo w w'):ia lo w' C A n c L i:=by
 have hr:cy w' (fun b=>b≠C∧b<lo) 1 A n (runeCells L):=h.row.keep (fun b hX hl=>⟨hb.block b hX.2,hX,Nat.lt_of_lt_of_le hl hb.size⟩);exact⟨⟨h.cur.blk.same (hb.block C h.lt),hr.lift (fun _ h=>h.1),h.cur.size,h.cur.le,h.cur.cap⟩,hr,h.lt⟩
theorem ia.drewN {lo:Nat} {w:World} {C:Nat} {A:Option Addr} {n c:Nat} {L:List Int} {i:Nat} (h:ia lo w C A n c L i) (k:Nat):ia lo (w.drewN k) C A n c L i:=h.but (h.cur.drewN k) (aZ.drewN w C k)
def KL (w:World) (C:Nat) (A:Option Addr) (n c:Nat) (L:List Int) (i:Nat) (e:Ending) (w':World):Prop :=
  (pk L (aC kE L (i+1))=39∧(∃ B m d,e=.returned (.slice B m d)∧cy w' (fun b=>w.heap.size≤b) 4 B m (gF (aL L (i+1) (aC kE L (i+1))))∧m≤d∧m≤n)∧ay w' C A n c L (aC kE L (i+1)+1)∧aZ w C w') ∨
    (pk L (aC kE L (i+1))≠39∧e=aW 2 (aC kE L (i+1))∧aZ w C w')
theorem IZ (w:World) (C:Nat) (A:Option Addr) (n c:Nat) (L:List Int) (i:Nat) (h:ay w C A n c L i) (hi:i<n) (hn:n≤100000) :
    Calls Tryz.prog 118 #[.pointer (some ⟨C,0,none⟩)] w (KL w C A n c L i):=by
 obtain⟨i0,Je,z0,z1,z2⟩:=info_parts yd;have hl:=h.len;have hw1:IntKind.i64.wrap ((i:Int)+1)=(i:Int)+1:=wrap_small _ (by omega) (by omega);obtain⟨d1,d2,d3,d4⟩:=h.step hi;have Vj:=qqh ((ia.start h).but d3 d4);have dV:=qqh d4;have gD:=qqh (fun(W:World) (m:Nat) (h:ay W C A n c L m)=>lE W C A n c L m h);obtain⟨r,hr⟩:∃ r,aC kE L (i+1)=r:=⟨_,rfl⟩;have HR:=qqh hr;unfold KL;rw [hr];clear h d3 d4 hr;go_enter Tryz.func118,Tryz.ntmps118;go_wp2_with fail;go_loopw [3] (fun out wr=>∃ j:Nat,i+1≤j∧j≤n∧r=aC kE L j∧wr.ownsRow w.heap.size 172 4 out (j - (i+1)) (gF (aL L (i+1) j))∧ia w.heap.size wr C A n c L j∧aZ w C wr) (fun _ wr=>n - (match wr.cell? ⟨C,1,none⟩with | some (.int _ j)=>j.toNat | _=>0));(case atStart=>exact⟨i+1,Nat.le_refl _,hi,HR.out.symm,by rw [Nat.sub_self,Bc];exact World.ownsRow_nil _ _ _ _,Vj.out,dV.out⟩);obtain⟨j,hij,hjn,hrun,hown,sI,zz⟩:=hrel;have HJ:=qqh sI;have HB:=qqh zz;have HO:=qqh hown;have Qo:=qqh hrun;have nT:=qqh (sI.cur.blk.cell 1);obtain⟨Av,cv,rfl,su⟩:=aJ hown;have hwj:IntKind.i64.wrap ((j:Int)+1)=(j:Int)+1:=wrap_small _ (by omega) (by omega);obtain⟨x,hx⟩:∃ x,pk L j=x:=⟨_,rfl⟩;have HX:=qqh hx;have HP:=qqh (fun(W:World) (h:ay W C A n c L j)=>show Calls Tryz.prog 41 #[.pointer (some ⟨C,0,none⟩)] W fun e w'=>e=.returned (.int .i32 x)∧∃ m,w'=W.drewN m by have:=gD.out W j h;rwa [hx]at this);clear sI zz hown hrun hx;by_cases wT:x=39
 ·have hj:r=j:=Qo.out.trans (cJ (fun _=>by rw [HX.out,wT];rfl));have hlt:j<n:=(by rw [← hl];exact bu (by rw [HX.out];omega));subst wT;go_wp2_with fail;refine(HP.out _ HJ.out.cur).mono ?_;rintro e w3 ⟨rfl,m3,EL⟩;have kY:=qqh (HJ.out.drewN m3);have bN:=qqh (HB.out.trans (aZ.drewN _ C m3));have nX:=qqh (show(World.drewN _ m3).ownsRow w.heap.size 172 4 _ _ _ from HO.out);rw [← EL]at kY bN nX;clear EL;have mw:=qqh (cy.cj (X:=fun b=>w.heap.size≤b) nX.out (fun b hb=>(aU nX.out hb).1));obtain⟨s1,s2,s3,s4⟩:=kY.out.cur.step hlt;have CD:=qqh s3;have ej:=qqh (bN.out.trans s4);have ZK:=kY.out.lt;have YT:=qqh (mw.out.keep (s4.keeps (X':=fun b=>w.heap.size≤b) (fun b h=>by omega) (fun b h _=>h)));clear s3 s4;have XV:=qqh hj;clear hj;go_wp2_with fail;go_ret;left;rw [XV.out];exact⟨HX.out,⟨Av,_,cv,rfl,YT.out,su,by omega⟩,CD.out,ej.out⟩
 have afU:(x != 39)=true:=(by simp;exact wT);by_cases hneg:x<0
 ·have hj:r=j:=Qo.out.trans (cJ (fun _=>by rw [HX.out];unfold kE;rw [decide_eq_false (by omega)];rfl));have XV:=qqh hj;have CN:=qqh (show pk L j≠39 by rw [HX.out];exact wT);clear hj wT;go_wp2_with fail;refine(HP.out _ HJ.out.cur).mono ?_;rintro e w3 ⟨rfl,m3,EL⟩;have kY:=qqh (HJ.out.drewN m3);have bN:=qqh (HB.out.trans (aZ.drewN _ C m3));have nX:=qqh (show(World.drewN _ m3).ownsRow w.heap.size 172 4 _ _ _ from HO.out);rw [← EL]at kY bN nX;clear EL;go_wp2_with fail;refine(HP.out _ kY.out.cur).mono ?_;rintro e w4 ⟨rfl,m4,VR⟩;have DW:=qqh (kY.out.drewN m4);have ej:=qqh (bN.out.trans (aZ.drewN _ C m4));have od:=qqh (show(World.drewN _ m4).ownsRow w.heap.size 172 4 _ _ _ from nX.out);rw [← VR]at DW ej od;clear VR;have k1:=DW.out.cur.blk.cell 1;go_wp2_with fail;refine(bT 2 j _).mono ?_;rintro e w5 ⟨rfl,rfl⟩;go_wp2_with fail;rw [XV.out];exact⟨rfl,.inr ⟨CN.out,rfl,ej.out⟩⟩
 have hge:decide (x<0)=false:=decide_eq_false hneg;have hlt:j<n:=(by rw [← hl];exact bu (by rw [HX.out];omega));have Jg:=qqh (Qo.out.trans (dN (p:=kE) (by omega) (by rw [HX.out];unfold kE;simp;omega)));have xo:=qqh (show gF (aL L (i+1) (j+1))=gF (aL L (i+1) j)++[.int .i64 1,.int .i32 x,.slice none 0 0,.string ⟨#[]⟩] by rw [Bf hij (by omega),Bg,HX.out]);clear wT hneg;go_wp2_with fail;refine(HP.out _ HJ.out.cur).mono ?_;rintro e w3 ⟨rfl,m3,EL⟩;have kY:=qqh (HJ.out.drewN m3);have bN:=qqh (HB.out.trans (aZ.drewN _ C m3));have nX:=qqh (show(World.drewN _ m3).ownsRow w.heap.size 172 4 _ _ _ from HO.out);rw [← EL]at kY bN nX;clear EL;go_wp2_with fail;refine(HP.out _ kY.out.cur).mono ?_;rintro e w4 ⟨rfl,m4,VR⟩;have DW:=qqh (kY.out.drewN m4);have ej:=qqh (bN.out.trans (aZ.drewN _ C m4));have od:=qqh (show(World.drewN _ m4).ownsRow w.heap.size 172 4 _ _ _ from nX.out);rw [← VR]at DW ej od;clear VR;have CL:=qqh (fun(W:World)=>Rd.new W 172 4 1 [.int .i64 1,.int .i32 x,.slice none 0 0,.string ⟨#[]⟩] rfl);go_wp2_with fail;refine(HP.out _ DW.out.cur).mono ?_;rintro e w5 ⟨rfl,m5,EP⟩;have Fc:=qqh (DW.out.drewN m5);have cZ:=qqh (ej.out.trans (aZ.drewN _ C m5));have tM:=qqh (show(World.drewN _ m5).ownsRow w.heap.size 172 4 _ _ _ from od.out);rw [← EP]at Fc cZ tM;clear EP;have xy:=qqh (World.ownsRow.alloc tM.out (.cells #[.int .i64 1,.int .i32 x,.slice none 0 0,.string ⟨#[]⟩] 172));have dR:=(Below.refl w5.heap.size w5).alloc (Nat.le_refl _) (.cells #[.int .i64 1,.int .i32 x,.slice none 0 0,.string ⟨#[]⟩] 172);have EP:=cZ.out.1;have gG:=qqh (aZ.below (w:=w5) C dR)
 have lQ:=qqh (cZ.out.trans gG.out);have ze:=qqh (Fc.out.below (dR.mono EP));have hsz:=lQ.out.1;clear dR;go_wp2_with (at_builtin;refine ai _ rfl (.tmp 29) (.tmp 35) 99 rfl w.heap.size 172 i0 _ 4 56 Tryz.underlying99 Je z0 z1 z2 rfl (by decide) _ _ _ rfl xy.out (w5.heap.size+1) (some ⟨w5.heap.size,0,none⟩) 1 1 [.int .i64 1,.int .i32 x,.slice none 0 0,.string ⟨#[]⟩] rfl (CL.out w5) (OK x) (by simp only [maxLen];omega) (by omega) hsz ?_);intro v' w9 an;have cF:=an.below hsz xy.out;have GP:=qqh (ze.out.below cF);have eE:=qqh (eY lQ.out cF);have gV:=qqh (show w9.ownsRow w.heap.size 172 4 v' (j+1 - (i+1)) (gF (aL L (i+1) (j+1))) by
  have:=an.own;rw [xo.out,show j+1 - (i+1)=j - (i+1)+1 by omega];exact this)
 clear an cF;obtain⟨s1,s2,s3,s4⟩:=GP.out.cur.step hlt;have HJA:=qqh (GP.out.but s3 s4);have AF:=qqh (eE.out.trans s4);have ZK:=GP.out.lt;obtain⟨A9,c9,rfl,_⟩:=aJ gV.out;have HOA:=qqh (ownsRow_setCell_below gV.out (a:=⟨C,1,none⟩) ZK (.int .i64 ((j:Int)+1)));clear s3 s4;go_wp2_with fail;refine⟨⟨j+1,by omega,hlt,Jg.out,HOA.out,HJA.out,AF.out⟩,?_⟩;have e1:(w9.setCell ⟨C,1,none⟩ (.int .i64 ((j:Int)+1))).cell? ⟨C,1,none⟩=some (.int .i64 ((j+1:Nat):Int)):=HJA.out.cur.blk.cell 1;have e2:wr.cell? ⟨C,1,none⟩=some (.int .i64 (j:Int)):=nT.out;rw [e1,e2];simp only [Int.toNat_natCast];omega
def gQ (w:World) (X:Nat→Prop) (a:aE) (cs:List Value):Prop :=
  ∃ A n c,cs = [.int .i64 a.kind,.int .i32 a.rune,.slice A n c,.string a.name]∧cy w X 2 A n (ak a.set)∧n≤c∧n≤maxLen
theorem gQ.keep {w w':World} {X X':Nat→Prop} (hk:aa w X w' X') (a:aE) (cs:List Value) (h:gQ w X a cs):gQ w' X' a cs:=by
 obtain⟨A,n,c,e,h1,h2⟩:=h;exact⟨A,n,c,e,h1.keep hk,h2⟩
theorem gQ.one {w:World} {X:Nat→Prop} {a:aE} {cs:List Value} (h:gQ w X a cs):∀ u∈cs,u.oneCell'=true:=by
 obtain⟨A,n,c,rfl,_⟩:=h;intro u hu;simp at hu;rcases hu with rfl | rfl | rfl | rfl <;> rfl
def uI (lo C:Nat) (v:Value) (b:Nat):Prop:=lo≤b∧b≠C∧v.ownBlock≠some b
def fZ (lo C:Nat) (w:World) (v:Value) (l:List aE):Prop:=bX (gQ w (uI lo C v)) 172 4 w lo v l
theorem yX {w w':World} {C base sz n:Nat} {e:TypeId} {v:Value} {xs:List Value} (h:w.ownsRow base e sz v n xs) (hb:aZ w C w') (hC:C<base):w'.ownsRow base e sz v n xs:=by
 refine⟨h.1,?_⟩;rcases h.2 with h2 | ⟨g,cap,cur,hv,hg,hh,r⟩;exact .inl h2;exact .inr ⟨g,cap,cur,hv,hg,(hb.2.2.2.2 g (Array.getElem?_eq_some_iff.1 hh).1 (by omega)).trans hh,r⟩
theorem fZ.but {lo C:Nat} {w w':World} {v:Value} {l:List aE} (h:fZ lo C w v l) (hb:aZ w C w') (hC:C<lo):fZ lo C w' v l :=
  bX.kept (fun _ _ ho=>yX ho hb hC) (gQ.keep (hb.keeps (fun _ h=>h.2.1) (fun _ h _=>h))) h
theorem zB {lo C m sz:Nat} {e:TypeId} {v v':Value} {ys:List Value} {w w2:World} (ha:aV lo e sz v w m ys v' w2):aa w (uI lo C v) w2 (uI lo C v'):=by
 refine aa.app ha (fun b hb=>hb.2.2) (fun b hb hl=>⟨hb.1,hb.2.1,?_⟩);rcases ha.2.2 with e | e
 ·rw [e];exact hb.2.2
 rw [e];intro h;injection h with h;omega
theorem fZ.push {lo C:Nat} {w:World} {v:Value} {l:List aE} (h:fZ lo C w v l) (a:aE) {cs:List Value} (ha:gQ w (uI lo C v) a cs) (hcs:cs.length=4) :
    ∃ ys,w.ownsRow lo 172 4 v l.length ys∧∀ v' w',aV lo 172 4 v w (l.length+1) (ys++cs) v' w'→fZ lo C w' v' (l++[a]):=by
 obtain⟨css,h1,h2,h3,h4⟩:=h;refine⟨css.flatten,h4,fun v' w' an=>?_⟩;have hk:aa w (uI lo C v) w' (uI lo C v'):=zB an;exact bX.push h1 h2 h3 (gQ.keep hk) (ha.keep hk) hcs an
def qc (x:Int):List Value:=[.int .i64 1,.int .i32 x,.slice none 0 0,.string ⟨#[]⟩]
theorem Np (rs:List Int):(rs.map qc).flatten=gF rs:=by unfold gF;rw [List.flatMap_def];rfl
theorem zQ (w:World) (X:Nat→Prop) (x:Int):gQ w X (lM x) (qc x):=⟨none,0,0,rfl,⟨rfl,fun h=>absurd h (by omega)⟩,Nat.le_refl _,Nat.zero_le _⟩
theorem fZ.SV {lo C:Nat} {w:World} {v:Value} {l:List aE} (h:fZ lo C w v l) (rs:List Int) :
    ∃ ys,w.ownsRow lo 172 4 v l.length ys∧∀ v' w',aV lo 172 4 v w (l.length+rs.length) (ys++gF rs) v' w'→fZ lo C w' v' (l++rs.map lM):=by
 obtain⟨css,h1,h2,h3,h4⟩:=h;refine⟨css.flatten,h4,fun v' w' an=>?_⟩;have hk:aa w (uI lo C v) w' (uI lo C v'):=zB an;refine⟨css++rs.map qc,by simp [h1],?_,?_,?_⟩
 ·intro i a cs ha hc;rcases Nat.lt_or_ge i l.length with hi | hi
  ·rw [List.getElem?_append_left hi]at ha;rw [List.getElem?_append_left (by omega)]at hc;exact gQ.keep hk a cs (h2 i a cs ha hc)
  rw [List.getElem?_append_right hi,List.getElem?_map]at ha;rw [List.getElem?_append_right (by omega),h1,List.getElem?_map]at hc;cases hx:rs[i - l.length]? with
  | none=>rw [hx]at ha;cases ha
  | some x=>
   rw [hx]at ha hc;obtain rfl:=Option.some.inj ha;obtain rfl:=Option.some.inj hc;exact zQ w' _ x
 ·intro cs hc;rcases List.mem_append.1 hc with hc | hc;exact h3 cs hc;obtain⟨x,_,rfl⟩:=List.mem_map.1 hc;rfl
 have:=an.own;rw [List.flatten_append,Np,List.length_append,List.length_map];exact this
theorem fZ.form {lo C:Nat} {w:World} {v:Value} {l:List aE} (h:fZ lo C w v l):∃ A c,v=.slice A l.length c∧l.length≤c:=bX.form h
theorem fZ.nil (lo C:Nat) (w:World):fZ lo C w (.slice none 0 0) []:=bX.nil _ _
theorem fZ.below {lo C:Nat} {w w':World} {v:Value} {l:List aE} (h:fZ lo C w v l) (hb:Below w.heap.size w w'):fZ lo C w' v l :=
  bX.kept (fun _ _ ho=>dJ ho hb) (gQ.keep (aa.any hb)) h
theorem fZ.apart {lo C:Nat} {w:World} {v:Value} {l:List aE} (h:fZ lo C w v l) {b:Nat} (hb:w.heap.size≤b):v.ownBlock≠some b:=by
 obtain⟨css,h1,h2,h3,h4⟩:=h;intro e;have:=(aU h4 e).2;omega
def UU (p:Int→Bool) (w:World) (C:Nat) (A:Option Addr) (n c:Nat) (L:List Int) (a r:Nat) (wr:World):Prop :=
  ∃ j,a≤j∧j≤n∧r=aC p L j∧ay wr C A n c L j∧aZ w C wr
theorem IS {L:List Int} {i r:Nat} (hr:aC cW L (i+2)=r) (h:gx (aL L (i+2) r)=none):eP L i=.error (7,i+2):=by subst hr;unfold eP;rw [h]
theorem Ib {L:List Int} {i r:Nat} {s:ag} {e:Int × Nat} (hr:aC cW L (i+2)=r) (h:gx (aL L (i+2) r)=some s) (h2:aR L r 58=.error e):eP L i=.error e:=by subst hr;unfold eP;rw [h];simp only;rw [h2]
theorem Iu {L:List Int} {i r j:Nat} {s:ag} {e:Int × Nat} (hr:aC cW L (i+2)=r) (h:gx (aL L (i+2) r)=some s) (h2:aR L r 58=.ok j) (h3:aR L j 93=.error e):eP L i=.error e:=by subst hr;unfold eP;rw [h];simp only;rw [h2];simp only;rw [h3]
theorem JY {L:List Int} {i r j k:Nat} {s:ag} (hr:aC cW L (i+2)=r) (h:gx (aL L (i+2) r)=some s) (h2:aR L r 58=.ok j) (h3:aR L j 93=.ok k):eP L i=.ok (s,k):=by subst hr;unfold eP;rw [h];simp only;rw [h2];simp only;rw [h3]
theorem qY (l:List Int) (h:l.length≤4611686018427387904) (h2:l.length≤100000):(runesBytes l).size≤maxLen:=by
 have:=runesBytes_size_le l;simp only [maxLen];omega
theorem IJ (w:World) (C:Nat) (A:Option Addr) (n c:Nat) (L:List Int) (i:Nat) (h:ay w C A n c L i) (hL:fN L) (hi:i+2≤n) (hn:n≤100000) :
    Calls Tryz.prog 96 #[.pointer (some ⟨C,0,none⟩)] w (eo w C A n c L (eP L i)):=by
 have hs:=h.size;have hlen:=h.len;obtain⟨b,off,rfl,_,_⟩:=h.at (by omega);have HL:=qqh hL;have c0:=h.blk.cell 0;have c1:=h.blk.cell 1;have f1:=h.blk.frozen 1;have hw1:IntKind.i64.wrap ((i:Int)+2)=(i:Int)+2:=wrap_small _ (by omega) (by omega);have hm:=h.move (j:=i+2) hi;have Qz:=aZ.set w C 1 (.int .i64 ((i+2:Nat):Int));rw [show(((i+2:Nat)):Int)=(i:Int)+2 by omega]at hm Qz;have HM:=qqh hm;have bR:=qqh Qz;obtain⟨R,hR⟩:∃ R,eP L i=R:=⟨_,rfl⟩;rw [hR];have fO:=qqh hR;clear hL hm h Qz hR;obtain⟨r,hr⟩:∃ r,aC cW L (i+2)=r:=⟨_,rfl⟩;have jz:=qqh hr;have hi2:((i+2:Nat):Int)=(i:Int)+2:=(by omega);obtain⟨a,ha⟩:∃ a,i+2=a:=⟨_,rfl⟩;have haI:(i:Int)+2=(a:Int):=(by omega);have HA:=qqh ha;rw [haI]at HM bR hw1;rw [ha]at HM;clear hr hi2;go_enter Tryz.func96,Tryz.ntmps96;go_wp2_with fail;go_loopw [17] (fun _ wr=>UU cW w C (some ⟨b,off,none⟩) n c L a r wr) (fun _ wr=>n - (match wr.cell? ⟨C,1,none⟩with | some (.int _ j)=>j.toNat | _=>0));(case atStart=>exact⟨a,Nat.le_refl _,HM.out.le,by rw [← jz.out,HA.out],HM.out,bR.out⟩);obtain⟨j,haj,hj,hrun,sI,zz⟩:=hrel;have HJ:=qqh sI;have HB:=qqh zz;have HR:=qqh hrun;have gD:=qqh (fun(W:World) (h:ay W C (some ⟨b,off,none⟩) n c L j)=>cK W C (some ⟨b,off,none⟩) n c L j h);have nT:=qqh (sI.blk.cell 1);have sn:=qqh (fun(W:World)=>nx (pk L j) W (HL.out.pk j));clear sI zz hrun;by_cases C3:cW (pk L j)=true
 ·rw [C3]at sn;have hlt:j<L.length:=bu (fun e=>by rw [e]at C3;exact absurd C3 (by decide));have xP:IntKind.i64.wrap ((j:Int)+1)=(j:Int)+1:=wrap_small _ (by omega) (by omega);go_wp2_with fail;refine(gD.out _ HJ.out).mono ?_;rintro e w2 ⟨rfl,hc2,aQ⟩;have lT:=qqh hc2;have bt:=qqh (HB.out.trans aQ);clear hc2 aQ;go_wp2_with fail;refine(sn.out _).mono ?_;rintro e w3 ⟨rfl,bJ⟩;have nZ:=qqh (lT.out.below bJ);have bN:=qqh (bt.out.trans (aZ.below C bJ));clear bJ;obtain⟨d1,d2,d3,d4⟩:=nZ.out.step (by omega);have sV:=qqh d3;have ej:=qqh (bN.out.trans d4);clear d3 d4;go_wp2_with fail;refine⟨⟨j+1,by omega,by omega,HR.out.trans (dN hlt C3),sV.out,ej.out⟩,?_⟩;have e1:(w3.setCell ⟨C,1,none⟩ (.int .i64 ((j:Int)+1))).cell? ⟨C,1,none⟩=some (.int .i64 ((j+1:Nat):Int)):=sV.out.blk.cell 1;have e2:wr.cell? ⟨C,1,none⟩=some (.int .i64 (j:Int)):=nT.out;rw [e1,e2];simp only [Int.toNat_natCast];omega
 rw [Bool.not_eq_true]at C3;rw [C3]at sn;obtain rfl:r=j:=HR.out.trans (cJ (fun _=>C3));clear HR;go_wp2_with fail;refine(gD.out _ HJ.out).mono ?_;rintro e w2 ⟨rfl,hc2,aQ⟩;have lT:=qqh hc2;have bt:=qqh (HB.out.trans aQ);clear hc2 aQ;go_wp2_with fail;refine(sn.out _).mono ?_;rintro e w3 ⟨rfl,bJ⟩;have nZ:=qqh (lT.out.below bJ);have bN:=qqh (bt.out.trans (aZ.below C bJ));have OI:=qqh (show Below w3.heap.size w3 w3.drew from(Below.refl _ _).drew);clear bJ;have d0:=nZ.out.blk.cell 0;have d1:=nZ.out.blk.cell 1;have su:=vF (nZ.out.drewN 1) haj hj;have hk1:(a:Int)≤(r:Int):=(by omega);have hk2:(r:Int)≤(c:Int):=(by have:=nZ.out.cap;omega);have Pe:(0:Int)≤(a:Int):=(by omega);have hts:(runesBytes (aL L a r)).size≤maxLen:=qY _ (by unfold aL;rw [List.length_take];omega) (by unfold aL;rw [List.length_take];omega);have HCT:=qqh (EJ (aL L a r));generalize runesBytes (aL L a r)=T at *;have tU:=qqh (fun(W:World)=>It T W hts);clear hts;cases xE:gx (aL L a r)with
 | none=>
  have HT:=qqh (HCT.out.trans xE);have ld:=qqh (show R=.error (7,i+2) from fO.out.symm.trans (IS jz.out (by rw [HA.out];exact xE)));clear xE;go_upto_region 5 with fail;refine av (S:=(fun w'=>w'.cell? ⟨C,0,none⟩=some (.slice (some ⟨b,off,none⟩) n c)∧w'.cell? ⟨C,1,none⟩=some (.int .i64 r)∧(convert 33 9 (.slice (if c=a then some ⟨b,off,none⟩else some ⟨b,off+a,none⟩) (r - a) (c - a))).run Tryz.prog w'=.ok (.string T) w')) [3,8,10] (by kernel_rfl) ⟨d0,d1,su⟩ (fun aX=>?_);refine tq 0 28 ?_;(try simp only [zp,za,z0,zs]);refine tq 1 29 ?_;(try simp only [zp,za,z0,zs]);refine tq 2 30 ?_;(try simp only [zp,za,z0,zs]);refine tu 3 31 ?_;(try simp only [zp,za,z0,zs]);refine tq 4 32 ?_;(try simp only [zp,za,z0,zs]);refine tq 5 33 ?_;(try simp only [zp,za,z0,zs]);refine tq 6 34 ?_;(try simp only [zp,za,z0,zs]);refine tq 7 35 ?_;(try simp only [zp,za,z0,zs]);refine tu 8 36 ?_;(try simp only [zp,za,z0,zs]);refine tq 9 37 ?_;(try simp only [zp,za,z0,zs]);refine tu 10 38 ?_;(try simp only [zp,za,z0,zs]);refine aA (i:=11) (o:=⟨some 39,_,_,_,_,_⟩) (by kernel_rfl) rfl (by kernel_rfl) (fun K hK=>?_);go_simp;go_at_call 114;refine(tU.out _).mono ?_;rintro e w6 xY;unfold nF at xY;rw [HT.out]at xY;obtain⟨rfl,dR⟩:=xY;(try dsimp only);refine hK.out _ _ ?_;clear hK K;(try simp only [zp,za,z0,zs]);refine tq 12 27 ?_;(try simp only [zp,za,z0,zs]);refine tq 13 40 ?_;(try simp only [zp,za,z0,zs]);refine tq 14 41 ?_;(try simp only [zp,za,z0,zs]);refine tq 15 4 ?_;(try simp only [zp,za,z0,zs]);refine tq 16 5 ?_;(try simp only [zp,za,z0,zs]);refine aI (by kernel_rfl) ?_ _;generalize (if c=a then some ({ block:=b,off:=off }:Addr)else some { block:=b,off:=off+a })=Z;have gG:=qqh (bN.out.trans (aZ.below C (OI.out.trans (Below.mono dR (Nat.le_refl _)))))
  have HF:=qqh (fun(W:World)=>bT 7 a W);clear dR;go_simp;go_wp2_with fail;refine(HF.out _).mono ?_;rintro e w7 ⟨rfl,rfl⟩;go_wp2_with fail;rw [ld.out,HA.out];exact⟨rfl,rfl,gG.out⟩
 | some s=>
  have HT:=qqh (HCT.out.trans xE);have Ry:=qqh (show gx (aL L (i+2) r)=some s by rw [HA.out];exact xE);clear xE;go_upto_region 5 with fail;refine av (S:=(fun w'=>w'.cell? ⟨C,0,none⟩=some (.slice (some ⟨b,off,none⟩) n c)∧w'.cell? ⟨C,1,none⟩=some (.int .i64 r)∧(convert 33 9 (.slice (if c=a then some ⟨b,off,none⟩else some ⟨b,off+a,none⟩) (r - a) (c - a))).run Tryz.prog w'=.ok (.string T) w')) [3,8,10] (by kernel_rfl) ⟨d0,d1,su⟩ (fun aX=>?_);refine tq 0 28 ?_;(try simp only [zp,za,z0,zs]);refine tq 1 29 ?_;(try simp only [zp,za,z0,zs]);refine tq 2 30 ?_;(try simp only [zp,za,z0,zs]);refine tu 3 31 ?_;(try simp only [zp,za,z0,zs]);refine tq 4 32 ?_;(try simp only [zp,za,z0,zs]);refine tq 5 33 ?_;(try simp only [zp,za,z0,zs]);refine tq 6 34 ?_;(try simp only [zp,za,z0,zs]);refine tq 7 35 ?_;(try simp only [zp,za,z0,zs]);refine tu 8 36 ?_;(try simp only [zp,za,z0,zs]);refine tq 9 37 ?_;(try simp only [zp,za,z0,zs]);refine tu 10 38 ?_;(try simp only [zp,za,z0,zs]);refine aA (i:=11) (o:=⟨some 39,_,_,_,_,_⟩) (by kernel_rfl) rfl (by kernel_rfl) (fun K hK=>?_);go_simp;go_at_call 114;refine(tU.out _).mono ?_;rintro e w6 xY;unfold nF at xY;rw [HT.out]at xY;obtain⟨⟨A6,n6,c6,rfl,NM,CU⟩,dR⟩:=xY;(try dsimp only);refine hK.out _ _ ?_;clear hK K;(try simp only [zp,za,z0,zs]);refine tq 12 27 ?_;(try simp only [zp,za,z0,zs]);refine tq 13 40 ?_;(try simp only [zp,za,z0,zs]);refine tq 14 41 ?_;(try simp only [zp,za,z0,zs]);refine tq 15 4 ?_;(try simp only [zp,za,z0,zs]);refine tq 16 5 ?_;(try simp only [zp,za,z0,zs]);refine aI (by kernel_rfl) ?_ _;generalize (if c=a then some ({ block:=b,off:=off }:Addr)else some { block:=b,off:=off+a })=Z;have GR:=qqh ((nZ.out.drewN 1).below dR)
  have gG:=qqh (bN.out.trans (aZ.below C (OI.out.trans (Below.mono dR (Nat.le_refl _)))));have NQ:=qqh (NM.lift (X':=fun b=>b≠C∧w.heap.size≤b) (fun b h=>⟨fun e=>by have:=nZ.out.blk.lt;have h2:w3.heap.size≤b:=h;omega,Nat.le_trans bN.out.1 h⟩));clear dR NM;have HN:=qqh (eZ w6 C _ n c L r 58 GR.out (by decide));go_simp;cases hn:aR L r 58 with
  | error e0=>
   obtain⟨x,p⟩:=e0;rw [hn]at HN;have ld:=qqh (fO.out.symm.trans (Ib jz.out Ry.out hn));clear hn;go_wp2_with fail;refine HN.out.mono ?_;rintro e w7 ⟨he,hb⟩;unfold aW at he;subst he;have jq:=qqh (gG.out.trans hb);clear hb;go_wp2_with fail;rw [ld.out];exact⟨rfl,rfl,jq.out⟩
  | ok j2=>
   rw [hn]at HN;have O7:=qqh hn;clear hn;go_wp2_with fail;refine HN.out.mono ?_;rintro e w7 ⟨rfl,hc,hb⟩;have I9:=qqh hc;have jq:=qqh (gG.out.trans hb);have T3:=qqh (NQ.out.keep (hb.keeps (X':=fun b=>b≠C∧w.heap.size≤b) (fun b h=>h.1) (fun b h _=>h)));clear hb hc;have Jc:=qqh (eZ w7 C _ n c L j2 93 I9.out (by decide));cases hn:aR L j2 93 with
   | error e0=>
    obtain⟨x,p⟩:=e0;rw [hn]at Jc;have ld:=qqh (fO.out.symm.trans (Iu jz.out Ry.out O7.out hn));clear hn;go_wp2_with fail;refine Jc.out.mono ?_;rintro e w8 ⟨he,hb⟩;unfold aW at he;subst he;have vG:=qqh (jq.out.trans hb);clear hb;go_wp2_with fail;rw [ld.out];exact⟨rfl,rfl,vG.out⟩
   | ok k2=>
    rw [hn]at Jc;have ld:=qqh (fO.out.symm.trans (JY jz.out Ry.out O7.out hn));clear hn;go_wp2_with fail;refine Jc.out.mono ?_;rintro e w8 ⟨rfl,hc,hb⟩;have PN:=qqh hc;have vG:=qqh (jq.out.trans hb);have Y8:=qqh (T3.out.keep (hb.keeps (X':=fun b=>w.heap.size≤b) (fun b h=>h.1) (fun b h _=>h.2)));clear hb hc;go_wp2_with fail;go_ret;rw [ld.out];exact⟨⟨A6,n6,c6,rfl,Y8.out,CU⟩,PN.out,vG.out⟩
theorem ay.apart {w:World} {C G:Nat} {A:Option Addr} {n c:Nat} {L:List Int} {i:Nat} {t:TypeId} {v:Value} (h:ay w C A n c L i) (hG:aj w G t #[v]) (hv:∀ x,v≠.int .i32 x):cy w (fun b=>b≠C∧b≠G) 1 A n (runeCells L):=by
 refine⟨h.row.1,fun hn=>?_⟩;obtain⟨b,off,e,hb,hl,hc⟩:=h.row.2 hn;refine⟨b,off,e,⟨hb,fun he=>?_⟩,hl,hc⟩;subst he;have hlen:=h.len;obtain⟨x,hx⟩:∃ x,L[0]? = some x:=⟨_,List.getElem?_eq_getElem (by omega)⟩;have h1:=hc 0 (.int .i32 x) (by rw [eC,hx];rfl);rw [hG.cell]at h1;rcases off with _ | off
 ·simp at h1;exact hv x h1
 simp at h1
theorem ay.set {w:World} {C G:Nat} {A:Option Addr} {n c:Nat} {L:List Int} {i:Nat} {t:TypeId} {v:Value} (h:ay w C A n c L i) (hG:aj w G t #[v]) (hv:∀ x,v≠.int .i32 x) (hne:C≠G) (u:Value):ay (w.setCell ⟨G,0,none⟩ u) C A n c L i:=by
 have hk:aZ w G (w.setCell ⟨G,0,none⟩ u):=aZ.set _ _ _ _;exact⟨h.blk.same (hk.2.2.2.2 C h.blk.lt hne),(h.apart hG hv).keep (hk.keeps (fun b h=>h.2) (fun b h _=>h.1)),h.size,h.le,h.cap⟩
structure eS (w:World) (C P G:Nat) (A:Option Addr) (n c:Nat) (L:List Int) (j:Nat) (s:ag) (wr:World):Prop where
  cur:ay wr C A n c L j
  box:aj wr P 133 #[.pointer (some ⟨C,0,none⟩)]
  set:∃ B m d,aj wr G 24 #[.slice B m d]∧cy wr (fun b=>b≠C∧b≠P∧b≠G∧w.heap.size≤b) 2 B m (ak s)∧m≤d
  right:aG s
  but:aZ w C wr
  lo:C<w.heap.size∧w.heap.size≤P∧w.heap.size≤G∧P≠G
section
variable {w wr w' : World} {C P G : Nat} {A : Option Addr} {n c : Nat} {L : List Int} {j : Nat} {s : ag}
theorem eS.iR (h:eS w C P G A n c L j s wr) (hb:aZ wr C w') {k:Nat} (hc:ay w' C A n c L k):eS w C P G A n c L k s w':=by
 obtain⟨B,m,d,h1,h2,h3⟩:=h.set;obtain⟨l1,l2,l3,l4⟩:=h.lo;exact⟨hc,(hb.2.2.2.2 P h.box.lt (by omega)).trans h.box,⟨B,m,d,(hb.2.2.2.2 G h1.lt (by omega)).trans h1,h2.keep (hb.keeps (fun b h=>h.1) (fun b h _=>h)),h3⟩,h.right,h.but.trans hb,h.lo⟩
theorem eS.below (h:eS w C P G A n c L j s wr) (hb:Below wr.heap.size wr w'):eS w C P G A n c L j s w':=h.iR (aZ.below C hb) (h.cur.below hb)
theorem eS.drew (h:eS w C P G A n c L j s wr):eS w C P G A n c L j s wr.drew:=h.below ((Below.refl _ _).drew)
theorem eS.put (h:eS w C P G A n c L j s wr) {t:ag} {B:Option Addr} {m d:Nat} (hr:cy wr (fun b=>b≠C∧b≠P∧b≠G∧w.heap.size≤b) 2 B m (ak t)) (hd:m≤d) (ht:aG t) :
    eS w C P G A n c L j t (wr.setCell ⟨G,0,none⟩ (.slice B m d)):=by
 obtain⟨B0,m0,d0,h1,h2,h3⟩:=h.set;obtain⟨l1,l2,l3,l4⟩:=h.lo;have hk:aZ wr G (wr.setCell ⟨G,0,none⟩ (.slice B m d)):=aZ.set _ _ _ _;refine⟨h.cur.set h1 (fun x e=>by cases e) (by omega) _,(hk.2.2.2.2 P h.box.lt l4).trans h.box,⟨B,m,d,h1.put 0 _,hr.keep (hk.keeps (fun b h=>h.2.2.1) (fun b h _=>h)),hd⟩,ht,?_,h.lo⟩;exact⟨Nat.le_trans h.but.1 hk.1,hk.2.1.trans h.but.2.1,hk.2.2.1.trans h.but.2.2.1,hk.2.2.2.1.trans h.but.2.2.2.1,fun b hb hne=>(hk.2.2.2.2 b (Nat.lt_of_lt_of_le hb h.but.1) (by omega)).trans (h.but.2.2.2.2 b hb hne)⟩
end
theorem eS.arg {w wr:World} {C P G:Nat} {A:Option Addr} {n c:Nat} {L:List Int} {j:Nat} {s:ag} (h:eS w C P G A n c L j s wr) {B:Option Addr} {m d:Nat} (hb:aj wr G 24 #[.slice B m d]):bU wr B m d s:=by
 obtain⟨B0,m0,d0,h1,h2,h3⟩:=h.set;have e : #[Value.slice B m d] = #[.slice B0 m0 d0]:=by
  unfold aj at hb h1;rw [hb]at h1;injection h1 with h1;injection h1
 have e2:Value.slice B m d=.slice B0 m0 d0:=(by simpa using e);cases e2;exact⟨h.right,h2.of,h3⟩
theorem eS.part {w wx w1:World} {C P G:Nat} {A:Option Addr} {n c:Nat} {L:List Int} {j j2:Nat} {s t:ag} {e:Ending} (h:eS w C P G A n c L j s wx) (ht:aG t) (hp:eo wx C A n c L (.ok (t,j2)) e w1) :
    ∃ B m d,e=.returned (.slice B m d)∧eS w C P G A n c L j2 s w1∧bU w1 B m d t∧aZ wx C w1:=by
 obtain⟨⟨B,m,d,rfl,hr,hd⟩,hc,hb⟩:=hp;exact⟨B,m,d,rfl,h.iR hb hc,⟨ht,hr.of,hd⟩,hb⟩
theorem eS.lG {w wx w1:World} {C P G:Nat} {A:Option Addr} {n c:Nat} {L:List Int} {j:Nat} {s:ag} {cs:Array Value} {t:TypeId} (h:eS w C P G A n c L j s wx) (hb:aZ wx C w1) (hG:aj wx G t cs):aj w1 G t cs :=
  (hb.2.2.2.2 G hG.lt (by have:=h.lo;omega)).trans hG
theorem eS.fc {w wx:World} {C P G:Nat} {A:Option Addr} {n c:Nat} {L:List Int} {j:Nat} {s:ag} (h:eS w C P G A n c L j s wx):wx.cell? ⟨P,0,none⟩=some (.pointer (some ⟨C,0,none⟩)):=h.box.cell 0
theorem eS.op {w w1 w2:World} {C P G:Nat} {A:Option Addr} {n c:Nat} {L:List Int} {j:Nat} {s:ag} {r:ag × Int} {e:Ending} (h:eS w C P G A n c L j s w1) (hp:bQ w1 r e w2) :
    ∃ B m d,e=.returned (.tuple #[.slice B m d,.int .i64 r.2])∧eS w C P G A n c L j s w2∧cy w2 (fun b=>b≠C∧b≠P∧b≠G∧w.heap.size≤b) 2 B m (ak r.1)∧m≤d∧Below w1.heap.size w1 w2:=by
 obtain⟨B,m,d,rfl,h1,_,h2,h3⟩:=hp;refine⟨B,m,d,rfl,h.below h3,h1.lift (fun b hb=>?_),h2,h3⟩;obtain⟨B0,m0,d0,g1,_⟩:=h.set;have l1:=h.cur.blk.lt;have l2:=h.box.lt;have l3:=g1.lt;have l4:=h.but.1;exact⟨by omega,by omega,by omega,by omega⟩
theorem nC (B:Option Addr) (m d P G:Nat) (v:Value) (w:World) (hG:aj w G 24 #[v]) :
    Calls Tryz.prog 94 (#[.slice B m d,.int .i64 0] ++ #[.pointer (some ⟨P,0,none⟩),.pointer (some ⟨G,0,none⟩)]) w fun e w'=>e=.returned (.tuple #[])∧w'=w.setCell ⟨G,0,none⟩ (.slice B m d):=by
 have c0:=hG.cell 0;have f0:=hG.frozen 0;clear hG;go_enter Tryz.func94,Tryz.ntmps94;go_wp2_with fail;go_end0;exact⟨rfl,rfl⟩
theorem lN (B:Option Addr) (m d C P G:Nat) (A:Option Addr) (n c:Nat) (L:List Int) (j:Nat) (x:Int) (w:World) (hx:x≠0) (hP:aj w P 133 #[.pointer (some ⟨C,0,none⟩)]) (hC:ay w C A n c L j) :
    Calls Tryz.prog 94 (#[.slice B m d,.int .i64 x] ++ #[.pointer (some ⟨P,0,none⟩),.pointer (some ⟨G,0,none⟩)]) w fun e w'=>e=aW x j∧w'=w:=by
 have c0:=hP.cell 0;have d0:=hC.blk.cell 1;have hx2:(x != 0)=true:=(by simp;exact hx);have HF:=qqh (fun(W:World)=>bT x j W);clear hP hC hx;go_enter Tryz.func94,Tryz.ntmps94;go_wp2_with fail;refine(HF.out _).mono ?_;rintro e w3 ⟨rfl,rfl⟩;go_wp2_with fail;exact⟨rfl,rfl,rfl⟩
end Go.Proofs.YtkggjgeihhialaaGreatDoor
