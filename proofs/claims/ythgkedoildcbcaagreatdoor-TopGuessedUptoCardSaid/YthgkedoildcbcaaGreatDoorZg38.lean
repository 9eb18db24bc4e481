/- RdQuoted + RdFr + CurClass + SetFr -/
import Derived.Test.YthgkedoildcbcaaGreatDoorZg37
import Derived.Test.YthgkedoildcbcaaGreatDoorZg13
import Derived.Test.YthgkedoildcbcaaGreatDoorZg22
set_option maxHeartbeats 6400000
set_option maxRecDepth 100000
namespace Go.Proofs.YthgkedoildcbcaaGreatDoor
open Go.RowKit
theorem yb:(Tryz.prog.info? 171).map (fun i=>(i.zero,i.size,i.bytes))=some (some (.agg #[.int .i64 0,.int .i32 0,.slice none 0 0,.string ⟨#[]⟩]),4,56):=by kernel_rfl
def gG (l:List Int):List Value:=l.flatMap fun x=>[.int .i64 1,.int .i32 x,.slice none 0 0,.string ⟨#[]⟩]
theorem CE (l:List Int) (x:Int):gG (l++[x])=gG l++[.int .i64 1,.int .i32 x,.slice none 0 0,.string ⟨#[]⟩]:=by simp [gG]
theorem O1 (x:Int):∀ u ∈ [Value.int .i64 1,.int .i32 x,.slice none 0 0,.string ⟨#[]⟩],u.oneCell'=true:=by
 intro u hu;simp at hu;rcases hu with rfl | rfl | rfl | rfl <;> rfl
theorem CT {L:List Int} {a j:Nat} (ha:a≤j) (hj:j<L.length):aM L a (j+1)=aM L a j++[pk L j]:=by
 unfold aM;rw [show j+1 - a=(j - a)+1 by omega,List.take_add_one,List.getElem?_drop,show a+(j - a)=j by omega,List.getElem?_eq_getElem hj,F3 (List.getElem?_eq_getElem hj)];rfl
theorem Bt (L:List Int) (a:Nat):aM L a a = []:=by unfold aM;rw [Nat.sub_self];rfl
theorem eW {w w1 w2:World} {C:Nat} (h:bJ w C w1) (hb:Below w.heap.size w1 w2):bJ w C w2 :=
  ⟨Nat.le_trans h.1 hb.size,hb.os.trans h.2.1,hb.tape.trans h.2.2.1,hb.output.trans h.2.2.2.1,fun k hk hne=>(hb.block k hk).trans (h.2.2.2.2 k hk hne)⟩
structure hJ (lo:Nat) (w:World) (C:Nat) (A:Option Addr) (n c:Nat) (L:List Int) (i:Nat):Prop where
  cur:av w C A n c L i
  row:cE w (fun b=>b≠C∧b<lo) 1 A n (runeCells L)
  lt:C<lo
theorem hJ.start {w:World} {C:Nat} {A:Option Addr} {n c:Nat} {L:List Int} {i:Nat} (h:av w C A n c L i):hJ w.heap.size w C A n c L i :=
  ⟨h,h.row.keep (fun _ hX hl=>⟨rfl,⟨hX,hl⟩,hl⟩),h.blk.lt⟩
theorem hJ.but {lo:Nat} {w w':World} {C:Nat} {A:Option Addr} {n c:Nat} {L:List Int} {i j:Nat} (h:hJ lo w C A n c L i) (hc:av w' C A n c L j) (hb:bJ w C w'):hJ lo w' C A n c L j :=
  ⟨hc,h.row.keep (hb.keeps (fun _ h=>h.1) (fun _ h _=>h)),h.lt⟩
theorem hJ.below {lo:Nat} {w w':World} {C:Nat} {A:Option Addr} {n c:Nat} {L:List Int} {i:Nat} (h:hJ lo w C A n c L i) (hb:Below lo w w'):hJ lo w' C A n c L i:=by
 have hr:cE w' (fun b=>b≠C∧b<lo) 1 A n (runeCells L):=h.row.keep (fun b hX hl=>⟨hb.block b hX.2,hX,Nat.lt_of_lt_of_le hl hb.size⟩);exact⟨⟨h.cur.blk.same (hb.block C h.lt),hr.lift (fun _ h=>h.1),h.cur.size,h.cur.le,h.cur.cap⟩,hr,h.lt⟩
theorem hJ.drewN {lo:Nat} {w:World} {C:Nat} {A:Option Addr} {n c:Nat} {L:List Int} {i:Nat} (h:hJ lo w C A n c L i) (k:Nat):hJ lo (w.drewN k) C A n c L i:=h.but (h.cur.drewN k) (bJ.drewN w C k)
def JI (w:World) (C:Nat) (A:Option Addr) (n c:Nat) (L:List Int) (i:Nat) (e:Ending) (w':World):Prop :=
  (pk L (aB kG L (i+1))=39∧(∃ B m d,e=.returned (.slice B m d)∧cE w' (fun b=>w.heap.size≤b) 4 B m (gG (aM L (i+1) (aB kG L (i+1))))∧m≤d∧m≤n)∧av w' C A n c L (aB kG L (i+1)+1)∧bJ w C w') ∨
    (pk L (aB kG L (i+1))≠39∧e=aS 2 (aB kG L (i+1))∧bJ w C w')
theorem GH (w:World) (C:Nat) (A:Option Addr) (n c:Nat) (L:List Int) (i:Nat) (h:av w C A n c L i) (hi:i<n) (hn:n≤100000) :
    Calls Tryz.prog 113 #[.pointer (some ⟨C,0,none⟩)] w (JI w C A n c L i):=by
 obtain⟨i0,Jf,z0,z1,z2⟩:=info_parts yb;have hl:=h.len;have hw1:IntKind.i64.wrap ((i:Int)+1)=(i:Int)+1:=wrap_small _ (by omega) (by omega);obtain⟨d1,d2,d3,d4⟩:=h.step hi;have ZI:=qqh ((hJ.start h).but d3 d4);have dF:=qqh d4;have gP:=qqh (fun(W:World) (m:Nat) (h:av W C A n c L m)=>lJ W C A n c L m h);obtain⟨r,hr⟩:∃ r,aB kG L (i+1)=r:=⟨_,rfl⟩;have HR:=qqh hr;unfold JI;rw [hr];clear h d3 d4 hr;go_enter Tryz.func113,Tryz.ntmps113;go_wp2_with fail;go_loopw [3] (fun out wr=>∃ j:Nat,i+1≤j∧j≤n∧r=aB kG L j∧wr.ownsRow w.heap.size 171 4 out (j - (i+1)) (gG (aM L (i+1) j))∧hJ w.heap.size wr C A n c L j∧bJ w C wr) (fun _ wr=>n - (match wr.cell? ⟨C,1,none⟩with | some (.int _ j)=>j.toNat | _=>0));(case atStart=>exact⟨i+1,Nat.le_refl _,hi,HR.out.symm,by rw [Nat.sub_self,Bt];exact World.ownsRow_nil _ _ _ _,ZI.out,dF.out⟩);obtain⟨j,hij,hjn,hrun,hown,sY,zO⟩:=hrel;have HJ:=qqh sY;have HB:=qqh zO;have HO:=qqh hown;have QU:=qqh hrun;have nT:=qqh (sY.cur.blk.cell 1);obtain⟨Av,cv,rfl,q6⟩:=aI hown;have hwj:IntKind.i64.wrap ((j:Int)+1)=(j:Int)+1:=wrap_small _ (by omega) (by omega);obtain⟨x,hx⟩:∃ x,pk L j=x:=⟨_,rfl⟩;have HX:=qqh hx;have HP:=qqh (fun(W:World) (h:av W C A n c L j)=>show Calls Tryz.prog 34 #[.pointer (some ⟨C,0,none⟩)] W fun e w'=>e=.returned (.int .i32 x)∧∃ m,w'=W.drewN m by have:=gP.out W j h;rwa [hx]at this);clear sY zO hown hrun hx;by_cases xq:x=39
 ·have hj:r=j:=QU.out.trans (cI (fun _=>by rw [HX.out,xq];rfl));have hlt:j<n:=(by rw [← hl];exact bB (by rw [HX.out];omega));subst xq;go_wp2_with fail;refine(HP.out _ HJ.out.cur).mono ?_;rintro e w3 ⟨rfl,m3,Bb⟩;have lB:=qqh (HJ.out.drewN m3);have bF:=qqh (HB.out.trans (bJ.drewN _ C m3));have nc:=qqh (show(World.drewN _ m3).ownsRow w.heap.size 171 4 _ _ _ from HO.out);rw [← Bb]at lB bF nc;clear Bb;have kF:=qqh (cE.ck (X:=fun b=>w.heap.size≤b) nc.out (fun b hb=>(aU nc.out hb).1));obtain⟨s1,s2,s3,s4⟩:=lB.out.cur.step hlt;have Cs:=qqh s3;have dP:=qqh (bF.out.trans s4);have Ys:=lB.out.lt;have Zn:=qqh (kF.out.keep (s4.keeps (X':=fun b=>w.heap.size≤b) (fun b h=>by omega) (fun b h _=>h)));clear s3 s4;have YZ:=qqh hj;clear hj;go_wp2_with fail;go_ret;left;rw [YZ.out];exact⟨HX.out,⟨Av,_,cv,rfl,Zn.out,q6,by omega⟩,Cs.out,dP.out⟩
 have ado:(x != 39)=true:=(by simp;exact xq);by_cases hneg:x<0
 ·have hj:r=j:=QU.out.trans (cI (fun _=>by rw [HX.out];unfold kG;rw [decide_eq_false (by omega)];rfl));have YZ:=qqh hj;have CV:=qqh (show pk L j≠39 by rw [HX.out];exact xq);clear hj xq;go_wp2_with fail;refine(HP.out _ HJ.out.cur).mono ?_;rintro e w3 ⟨rfl,m3,Bb⟩;have lB:=qqh (HJ.out.drewN m3);have bF:=qqh (HB.out.trans (bJ.drewN _ C m3));have nc:=qqh (show(World.drewN _ m3).ownsRow w.heap.size 171 4 _ _ _ from HO.out);rw [← Bb]at lB bF nc;clear Bb;go_wp2_with fail;refine(HP.out _ lB.out.cur).mono ?_;rintro e w4 ⟨rfl,m4,R8⟩;have Ev:=qqh (lB.out.drewN m4);have dP:=qqh (bF.out.trans (bJ.drewN _ C m4));have mX:=qqh (show(World.drewN _ m4).ownsRow w.heap.size 171 4 _ _ _ from nc.out);rw [← R8]at Ev dP mX;clear R8;have k1:=Ev.out.cur.blk.cell 1;go_wp2_with fail;refine(bV 2 j _).mono ?_;rintro e w5 ⟨rfl,rfl⟩;go_wp2_with fail;rw [YZ.out];exact⟨rfl,.inr ⟨CV.out,rfl,dP.out⟩⟩
 have hge:decide (x<0)=false:=decide_eq_false hneg;have hlt:j<n:=(by rw [← hl];exact bB (by rw [HX.out];omega));have Jo:=qqh (QU.out.trans (dK (p:=kG) (by omega) (by rw [HX.out];unfold kG;simp;omega)));have um:=qqh (show gG (aM L (i+1) (j+1))=gG (aM L (i+1) j)++[.int .i64 1,.int .i32 x,.slice none 0 0,.string ⟨#[]⟩] by rw [CT hij (by omega),CE,HX.out]);clear xq hneg;go_wp2_with fail;refine(HP.out _ HJ.out.cur).mono ?_;rintro e w3 ⟨rfl,m3,Bb⟩;have lB:=qqh (HJ.out.drewN m3);have bF:=qqh (HB.out.trans (bJ.drewN _ C m3));have nc:=qqh (show(World.drewN _ m3).ownsRow w.heap.size 171 4 _ _ _ from HO.out);rw [← Bb]at lB bF nc;clear Bb;go_wp2_with fail;refine(HP.out _ lB.out.cur).mono ?_;rintro e w4 ⟨rfl,m4,R8⟩;have Ev:=qqh (lB.out.drewN m4);have dP:=qqh (bF.out.trans (bJ.drewN _ C m4));have mX:=qqh (show(World.drewN _ m4).ownsRow w.heap.size 171 4 _ _ _ from nc.out);rw [← R8]at Ev dP mX;clear R8;have BJ:=qqh (fun(W:World)=>Rd.new W 171 4 1 [.int .i64 1,.int .i32 x,.slice none 0 0,.string ⟨#[]⟩] rfl);go_wp2_with fail;refine(HP.out _ Ev.out.cur).mono ?_;rintro e w5 ⟨rfl,m5,Ks⟩;have FU:=qqh (Ev.out.drewN m5);have dN:=qqh (dP.out.trans (bJ.drewN _ C m5));have tO:=qqh (show(World.drewN _ m5).ownsRow w.heap.size 171 4 _ _ _ from mX.out);rw [← Ks]at FU dN tO;clear Ks;have uS:=qqh (World.ownsRow.alloc tO.out (.cells #[.int .i64 1,.int .i32 x,.slice none 0 0,.string ⟨#[]⟩] 171));have ek:=(Below.refl w5.heap.size w5).alloc (Nat.le_refl _) (.cells #[.int .i64 1,.int .i32 x,.slice none 0 0,.string ⟨#[]⟩] 171);have Ks:=dN.out.1;have fC:=qqh (bJ.below (w:=w5) C ek)
 have iG:=qqh (dN.out.trans fC.out);have AA:=qqh (FU.out.below (ek.mono Ks));have hsz:=iG.out.1;clear ek;go_wp2_with (at_builtin;refine aj _ rfl (.tmp 29) (.tmp 35) 93 rfl w.heap.size 171 i0 _ 4 56 Tryz.underlying93 Jf z0 z1 z2 rfl (by decide) _ _ _ rfl uS.out (w5.heap.size+1) (some ⟨w5.heap.size,0,none⟩) 1 1 [.int .i64 1,.int .i32 x,.slice none 0 0,.string ⟨#[]⟩] rfl (BJ.out w5) (O1 x) (by simp only [maxLen];omega) (by omega) hsz ?_);intro v' w9 an;have cj:=an.below hsz uS.out;have GU:=qqh (AA.out.below cj);have fe:=qqh (eW iG.out cj);have gS:=qqh (show w9.ownsRow w.heap.size 171 4 v' (j+1 - (i+1)) (gG (aM L (i+1) (j+1))) by
  have:=an.own;rw [um.out,show j+1 - (i+1)=j - (i+1)+1 by omega];exact this)
 clear an cj;obtain⟨s1,s2,s3,s4⟩:=GU.out.cur.step hlt;have HJA:=qqh (GU.out.but s3 s4);have yz:=qqh (fe.out.trans s4);have Ys:=GU.out.lt;obtain⟨A9,c9,rfl,_⟩:=aI gS.out;have HOA:=qqh (ownsRow_setCell_below gS.out (a:=⟨C,1,none⟩) Ys (.int .i64 ((j:Int)+1)));clear s3 s4;go_wp2_with fail;refine⟨⟨j+1,by omega,hlt,Jo.out,HOA.out,HJA.out,yz.out⟩,?_⟩;have e1:(w9.setCell ⟨C,1,none⟩ (.int .i64 ((j:Int)+1))).cell? ⟨C,1,none⟩=some (.int .i64 ((j+1:Nat):Int)):=HJA.out.cur.blk.cell 1;have e2:wr.cell? ⟨C,1,none⟩=some (.int .i64 (j:Int)):=nT.out;rw [e1,e2];simp only [Int.toNat_natCast];omega
def gM (w:World) (X:Nat→Prop) (a:aG) (cs:List Value):Prop :=
  ∃ A n c,cs = [.int .i64 a.kind,.int .i32 a.rune,.slice A n c,.string a.name]∧cE w X 2 A n (ak a.set)∧n≤c∧n≤maxLen
theorem gM.keep {w w':World} {X X':Nat→Prop} (hk:aa w X w' X') (a:aG) (cs:List Value) (h:gM w X a cs):gM w' X' a cs:=by
 obtain⟨A,n,c,e,h1,h2⟩:=h;exact⟨A,n,c,e,h1.keep hk,h2⟩
theorem gM.one {w:World} {X:Nat→Prop} {a:aG} {cs:List Value} (h:gM w X a cs):∀ u∈cs,u.oneCell'=true:=by
 obtain⟨A,n,c,rfl,_⟩:=h;intro u hu;simp at hu;rcases hu with rfl | rfl | rfl | rfl <;> rfl
def vc (lo C:Nat) (v:Value) (b:Nat):Prop:=lo≤b∧b≠C∧v.ownBlock≠some b
def gn (lo C:Nat) (w:World) (v:Value) (l:List aG):Prop:=cL (gM w (vc lo C v)) 171 4 w lo v l
theorem FC {w w':World} {C base sz n:Nat} {e:TypeId} {v:Value} {xs:List Value} (h:w.ownsRow base e sz v n xs) (hb:bJ w C w') (hC:C<base):w'.ownsRow base e sz v n xs:=by
 refine⟨h.1,?_⟩;rcases h.2 with h2 | ⟨g,cap,cur,hv,hg,hh,r⟩;exact .inl h2;exact .inr ⟨g,cap,cur,hv,hg,(hb.2.2.2.2 g (Array.getElem?_eq_some_iff.1 hh).1 (by omega)).trans hh,r⟩
theorem gn.but {lo C:Nat} {w w':World} {v:Value} {l:List aG} (h:gn lo C w v l) (hb:bJ w C w') (hC:C<lo):gn lo C w' v l :=
  cL.kept (fun _ _ ho=>FC ho hb hC) (gM.keep (hb.keeps (fun _ h=>h.2.1) (fun _ h _=>h))) h
theorem AI {lo C m sz:Nat} {e:TypeId} {v v':Value} {ys:List Value} {w w2:World} (ha:aY lo e sz v w m ys v' w2):aa w (vc lo C v) w2 (vc lo C v'):=by
 refine aa.app ha (fun b hb=>hb.2.2) (fun b hb hl=>⟨hb.1,hb.2.1,?_⟩);rcases ha.2.2 with e | e
 ·rw [e];exact hb.2.2
 rw [e];intro h;injection h with h;omega
theorem gn.push {lo C:Nat} {w:World} {v:Value} {l:List aG} (h:gn lo C w v l) (a:aG) {cs:List Value} (ha:gM w (vc lo C v) a cs) (hcs:cs.length=4) :
    ∃ ys,w.ownsRow lo 171 4 v l.length ys∧∀ v' w',aY lo 171 4 v w (l.length+1) (ys++cs) v' w'→gn lo C w' v' (l++[a]):=by
 obtain⟨css,h1,h2,h3,h4⟩:=h;refine⟨css.flatten,h4,fun v' w' an=>?_⟩;have hk:aa w (vc lo C v) w' (vc lo C v'):=AI an;exact cL.push h1 h2 h3 (gM.keep hk) (ha.keep hk) hcs an
def qc (x:Int):List Value:=[.int .i64 1,.int .i32 x,.slice none 0 0,.string ⟨#[]⟩]
theorem NI (rs:List Int):(rs.map qc).flatten=gG rs:=by unfold gG;rw [List.flatMap_def];rfl
theorem AR (w:World) (X:Nat→Prop) (x:Int):gM w X (lH x) (qc x):=⟨none,0,0,rfl,⟨rfl,fun h=>absurd h (by omega)⟩,Nat.le_refl _,Nat.zero_le _⟩
theorem gn.Vf {lo C:Nat} {w:World} {v:Value} {l:List aG} (h:gn lo C w v l) (rs:List Int) :
    ∃ ys,w.ownsRow lo 171 4 v l.length ys∧∀ v' w',aY lo 171 4 v w (l.length+rs.length) (ys++gG rs) v' w'→gn lo C w' v' (l++rs.map lH):=by
 obtain⟨css,h1,h2,h3,h4⟩:=h;refine⟨css.flatten,h4,fun v' w' an=>?_⟩;have hk:aa w (vc lo C v) w' (vc lo C v'):=AI an;refine⟨css++rs.map qc,by simp [h1],?_,?_,?_⟩
 ·intro i a cs ha hc;rcases Nat.lt_or_ge i l.length with hi | hi
  ·rw [List.getElem?_append_left hi]at ha;rw [List.getElem?_append_left (by omega)]at hc;exact gM.keep hk a cs (h2 i a cs ha hc)
  rw [List.getElem?_append_right hi,List.getElem?_map]at ha;rw [List.getElem?_append_right (by omega),h1,List.getElem?_map]at hc;cases hx:rs[i - l.length]? with
  | none=>rw [hx]at ha;cases ha
  | some x=>
   rw [hx]at ha hc;obtain rfl:=Option.some.inj ha;obtain rfl:=Option.some.inj hc;exact AR w' _ x
 ·intro cs hc;rcases List.mem_append.1 hc with hc | hc;exact h3 cs hc;obtain⟨x,_,rfl⟩:=List.mem_map.1 hc;rfl
 have:=an.own;rw [List.flatten_append,NI,List.length_append,List.length_map];exact this
theorem gn.form {lo C:Nat} {w:World} {v:Value} {l:List aG} (h:gn lo C w v l):∃ A c,v=.slice A l.length c∧l.length≤c:=cL.form h
theorem gn.nil (lo C:Nat) (w:World):gn lo C w (.slice none 0 0) []:=cL.nil _ _
theorem gn.below {lo C:Nat} {w w':World} {v:Value} {l:List aG} (h:gn lo C w v l) (hb:Below w.heap.size w w'):gn lo C w' v l :=
  cL.kept (fun _ _ ho=>ew ho hb) (gM.keep (aa.any hb)) h
theorem gn.apart {lo C:Nat} {w:World} {v:Value} {l:List aG} (h:gn lo C w v l) {b:Nat} (hb:w.heap.size≤b):v.ownBlock≠some b:=by
 obtain⟨css,h1,h2,h3,h4⟩:=h;intro e;have:=(aU h4 e).2;omega
def T1 (p:Int→Bool) (w:World) (C:Nat) (A:Option Addr) (n c:Nat) (L:List Int) (a r:Nat) (wr:World):Prop :=
  ∃ j,a≤j∧j≤n∧r=aB p L j∧av wr C A n c L j∧bJ w C wr
theorem Hs {L:List Int} {i r:Nat} (hr:aB cU L (i+2)=r) (h:gz (aM L (i+2) r)=none):eE L i=.error (7,i+2):=by subst hr;unfold eE;rw [h]
theorem GM {L:List Int} {i r:Nat} {s:af} {e:Int × Nat} (hr:aB cU L (i+2)=r) (h:gz (aM L (i+2) r)=some s) (h2:aQ L r 58=.error e):eE L i=.error e:=by subst hr;unfold eE;rw [h];simp only;rw [h2]
theorem IA {L:List Int} {i r j:Nat} {s:af} {e:Int × Nat} (hr:aB cU L (i+2)=r) (h:gz (aM L (i+2) r)=some s) (h2:aQ L r 58=.ok j) (h3:aQ L j 93=.error e):eE L i=.error e:=by subst hr;unfold eE;rw [h];simp only;rw [h2];simp only;rw [h3]
theorem JN {L:List Int} {i r j k:Nat} {s:af} (hr:aB cU L (i+2)=r) (h:gz (aM L (i+2) r)=some s) (h2:aQ L r 58=.ok j) (h3:aQ L j 93=.ok k):eE L i=.ok (s,k):=by subst hr;unfold eE;rw [h];simp only;rw [h2];simp only;rw [h3]
theorem rR (l:List Int) (h:l.length≤4611686018427387904) (h2:l.length≤100000):(runesBytes l).size≤maxLen:=by
 have:=runesBytes_size_le l;simp only [maxLen];omega
theorem GS (w:World) (C:Nat) (A:Option Addr) (n c:Nat) (L:List Int) (i:Nat) (h:av w C A n c L i) (hL:fP L) (hi:i+2≤n) (hn:n≤100000) :
    Calls Tryz.prog 82 #[.pointer (some ⟨C,0,none⟩)] w (ef w C A n c L (eE L i)):=by
 have hs:=h.size;have hlen:=h.len;obtain⟨b,off,rfl,_,_⟩:=h.at (by omega);have HL:=qqh hL;have c0:=h.blk.cell 0;have c1:=h.blk.cell 1;have f1:=h.blk.frozen 1;have hw1:IntKind.i64.wrap ((i:Int)+2)=(i:Int)+2:=wrap_small _ (by omega) (by omega);have hm:=h.move (j:=i+2) hi;have RO:=bJ.set w C 1 (.int .i64 ((i+2:Nat):Int));rw [show(((i+2:Nat)):Int)=(i:Int)+2 by omega]at hm RO;have HM:=qqh hm;have bI:=qqh RO;obtain⟨R,hR⟩:∃ R,eE L i=R:=⟨_,rfl⟩;rw [hR];have fB:=qqh hR;clear hL hm h RO hR;obtain⟨r,hr⟩:∃ r,aB cU L (i+2)=r:=⟨_,rfl⟩;have jd:=qqh hr;have hi2:((i+2:Nat):Int)=(i:Int)+2:=(by omega);obtain⟨a,ha⟩:∃ a,i+2=a:=⟨_,rfl⟩;have haI:(i:Int)+2=(a:Int):=(by omega);have HA:=qqh ha;rw [haI]at HM bI hw1;rw [ha]at HM;clear hr hi2;go_enter Tryz.func82,Tryz.ntmps82;go_wp2_with fail;go_loopw [17] (fun _ wr=>T1 cU w C (some ⟨b,off,none⟩) n c L a r wr) (fun _ wr=>n - (match wr.cell? ⟨C,1,none⟩with | some (.int _ j)=>j.toNat | _=>0));(case atStart=>exact⟨a,Nat.le_refl _,HM.out.le,by rw [← jd.out,HA.out],HM.out,bI.out⟩);obtain⟨j,haj,hj,hrun,sY,zO⟩:=hrel;have HJ:=qqh sY;have HB:=qqh zO;have HR:=qqh hrun;have gP:=qqh (fun(W:World) (h:av W C (some ⟨b,off,none⟩) n c L j)=>cK W C (some ⟨b,off,none⟩) n c L j h);have nT:=qqh (sY.blk.cell 1);have sC:=qqh (fun(W:World)=>nD (pk L j) W (HL.out.pk j));clear sY zO hrun;by_cases Dl:cU (pk L j)=true
 ·rw [Dl]at sC;have hlt:j<L.length:=bB (fun e=>by rw [e]at Dl;exact absurd Dl (by decide));have xP:IntKind.i64.wrap ((j:Int)+1)=(j:Int)+1:=wrap_small _ (by omega) (by omega);go_wp2_with fail;refine(gP.out _ HJ.out).mono ?_;rintro e w2 ⟨rfl,hc2,aR⟩;have mB:=qqh hc2;have bw:=qqh (HB.out.trans aR);clear hc2 aR;go_wp2_with fail;refine(sC.out _).mono ?_;rintro e w3 ⟨rfl,bL⟩;have og:=qqh (mB.out.below bL);have bF:=qqh (bw.out.trans (bJ.below C bL));clear bL;obtain⟨d1,d2,d3,d4⟩:=og.out.step (by omega);have tj:=qqh d3;have dP:=qqh (bF.out.trans d4);clear d3 d4;go_wp2_with fail;refine⟨⟨j+1,by omega,by omega,HR.out.trans (dK hlt Dl),tj.out,dP.out⟩,?_⟩;have e1:(w3.setCell ⟨C,1,none⟩ (.int .i64 ((j:Int)+1))).cell? ⟨C,1,none⟩=some (.int .i64 ((j+1:Nat):Int)):=tj.out.blk.cell 1;have e2:wr.cell? ⟨C,1,none⟩=some (.int .i64 (j:Int)):=nT.out;rw [e1,e2];simp only [Int.toNat_natCast];omega
 rw [Bool.not_eq_true]at Dl;rw [Dl]at sC;obtain rfl:r=j:=HR.out.trans (cI (fun _=>Dl));clear HR;go_wp2_with fail;refine(gP.out _ HJ.out).mono ?_;rintro e w2 ⟨rfl,hc2,aR⟩;have mB:=qqh hc2;have bw:=qqh (HB.out.trans aR);clear hc2 aR;go_wp2_with fail;refine(sC.out _).mono ?_;rintro e w3 ⟨rfl,bL⟩;have og:=qqh (mB.out.below bL);have bF:=qqh (bw.out.trans (bJ.below C bL));have Mr:=qqh (show Below w3.heap.size w3 w3.drew from(Below.refl _ _).drew);clear bL;have d0:=og.out.blk.cell 0;have d1:=og.out.blk.cell 1;have q6:=wu (og.out.drewN 1) haj hj;have hk1:(a:Int)≤(r:Int):=(by omega);have hk2:(r:Int)≤(c:Int):=(by have:=og.out.cap;omega);have OY:(0:Int)≤(a:Int):=(by omega);have hts:(runesBytes (aM L a r)).size≤maxLen:=rR _ (by unfold aM;rw [List.length_take];omega) (by unfold aM;rw [List.length_take];omega);have Sm:=qqh (E3 (aM L a r));generalize runesBytes (aM L a r)=T at *;have qq:=qqh (fun(W:World)=>Il T W hts);clear hts;cases Dp:gz (aM L a r)with
 | none=>
  have HT:=qqh (Sm.out.trans Dp);have jC:=qqh (show R=.error (7,i+2) from fB.out.symm.trans (Hs jd.out (by rw [HA.out];exact Dp)));clear Dp;go_upto_region 5 with fail;refine az (S:=(fun w'=>w'.cell? ⟨C,0,none⟩=some (.slice (some ⟨b,off,none⟩) n c)∧w'.cell? ⟨C,1,none⟩=some (.int .i64 r)∧(convert 26 9 (.slice (if c=a then some ⟨b,off,none⟩else some ⟨b,off+a,none⟩) (r - a) (c - a))).run Tryz.prog w'=.ok (.string T) w')) [3,8,10] (by kernel_rfl) ⟨d0,d1,q6⟩ (fun bh=>?_);refine tq 0 28 ?_;(try simp only [zp,za,z0,zs]);refine tq 1 29 ?_;(try simp only [zp,za,z0,zs]);refine tq 2 30 ?_;(try simp only [zp,za,z0,zs]);refine tu 3 31 ?_;(try simp only [zp,za,z0,zs]);refine tq 4 32 ?_;(try simp only [zp,za,z0,zs]);refine tq 5 33 ?_;(try simp only [zp,za,z0,zs]);refine tq 6 34 ?_;(try simp only [zp,za,z0,zs]);refine tq 7 35 ?_;(try simp only [zp,za,z0,zs]);refine tu 8 36 ?_;(try simp only [zp,za,z0,zs]);refine tq 9 37 ?_;(try simp only [zp,za,z0,zs]);refine tu 10 38 ?_;(try simp only [zp,za,z0,zs]);refine aA (i:=11) (o:=⟨some 39,_,_,_,_,_⟩) (by kernel_rfl) rfl (by kernel_rfl) (fun K hK=>?_);go_simp;go_at_call 107;refine(qq.out _).mono ?_;rintro e w6 C8;unfold nP at C8;rw [HT.out]at C8;obtain⟨rfl,ek⟩:=C8;(try dsimp only);refine hK.out _ _ ?_;clear hK K;(try simp only [zp,za,z0,zs]);refine tq 12 27 ?_;(try simp only [zp,za,z0,zs]);refine tq 13 40 ?_;(try simp only [zp,za,z0,zs]);refine tq 14 41 ?_;(try simp only [zp,za,z0,zs]);refine tq 15 4 ?_;(try simp only [zp,za,z0,zs]);refine tq 16 5 ?_;(try simp only [zp,za,z0,zs]);refine aJ (by kernel_rfl) ?_ _;generalize (if c=a then some ({ block:=b,off:=off }:Addr)else some { block:=b,off:=off+a })=Z;have fC:=qqh (bF.out.trans (bJ.below C (Mr.out.trans (Below.mono ek (Nat.le_refl _)))))
  have HF:=qqh (fun(W:World)=>bV 7 a W);clear ek;go_simp;go_wp2_with fail;refine(HF.out _).mono ?_;rintro e w7 ⟨rfl,rfl⟩;go_wp2_with fail;rw [jC.out,HA.out];exact⟨rfl,rfl,fC.out⟩
 | some s=>
  have HT:=qqh (Sm.out.trans Dp);have RR:=qqh (show gz (aM L (i+2) r)=some s by rw [HA.out];exact Dp);clear Dp;go_upto_region 5 with fail;refine az (S:=(fun w'=>w'.cell? ⟨C,0,none⟩=some (.slice (some ⟨b,off,none⟩) n c)∧w'.cell? ⟨C,1,none⟩=some (.int .i64 r)∧(convert 26 9 (.slice (if c=a then some ⟨b,off,none⟩else some ⟨b,off+a,none⟩) (r - a) (c - a))).run Tryz.prog w'=.ok (.string T) w')) [3,8,10] (by kernel_rfl) ⟨d0,d1,q6⟩ (fun bh=>?_);refine tq 0 28 ?_;(try simp only [zp,za,z0,zs]);refine tq 1 29 ?_;(try simp only [zp,za,z0,zs]);refine tq 2 30 ?_;(try simp only [zp,za,z0,zs]);refine tu 3 31 ?_;(try simp only [zp,za,z0,zs]);refine tq 4 32 ?_;(try simp only [zp,za,z0,zs]);refine tq 5 33 ?_;(try simp only [zp,za,z0,zs]);refine tq 6 34 ?_;(try simp only [zp,za,z0,zs]);refine tq 7 35 ?_;(try simp only [zp,za,z0,zs]);refine tu 8 36 ?_;(try simp only [zp,za,z0,zs]);refine tq 9 37 ?_;(try simp only [zp,za,z0,zs]);refine tu 10 38 ?_;(try simp only [zp,za,z0,zs]);refine aA (i:=11) (o:=⟨some 39,_,_,_,_,_⟩) (by kernel_rfl) rfl (by kernel_rfl) (fun K hK=>?_);go_simp;go_at_call 107;refine(qq.out _).mono ?_;rintro e w6 C8;unfold nP at C8;rw [HT.out]at C8;obtain⟨⟨A6,n6,c6,rfl,Jn,Bw⟩,ek⟩:=C8;(try dsimp only);refine hK.out _ _ ?_;clear hK K;(try simp only [zp,za,z0,zs]);refine tq 12 27 ?_;(try simp only [zp,za,z0,zs]);refine tq 13 40 ?_;(try simp only [zp,za,z0,zs]);refine tq 14 41 ?_;(try simp only [zp,za,z0,zs]);refine tq 15 4 ?_;(try simp only [zp,za,z0,zs]);refine tq 16 5 ?_;(try simp only [zp,za,z0,zs]);refine aJ (by kernel_rfl) ?_ _;generalize (if c=a then some ({ block:=b,off:=off }:Addr)else some { block:=b,off:=off+a })=Z;have Ip:=qqh ((og.out.drewN 1).below ek)
  have fC:=qqh (bF.out.trans (bJ.below C (Mr.out.trans (Below.mono ek (Nat.le_refl _)))));have Sl:=qqh (Jn.lift (X':=fun b=>b≠C∧w.heap.size≤b) (fun b h=>⟨fun e=>by have:=og.out.blk.lt;have h2:w3.heap.size≤b:=h;omega,Nat.le_trans bF.out.1 h⟩));clear ek Jn;have HN:=qqh (eS w6 C _ n c L r 58 Ip.out (by decide));go_simp;cases hn:aQ L r 58 with
  | error e0=>
   obtain⟨x,p⟩:=e0;rw [hn]at HN;have jC:=qqh (fB.out.symm.trans (GM jd.out RR.out hn));clear hn;go_wp2_with fail;refine HN.out.mono ?_;rintro e w7 ⟨he,hb⟩;unfold aS at he;subst he;have kV:=qqh (fC.out.trans hb);clear hb;go_wp2_with fail;rw [jC.out];exact⟨rfl,rfl,kV.out⟩
  | ok j2=>
   rw [hn]at HN;have Pq:=qqh hn;clear hn;go_wp2_with fail;refine HN.out.mono ?_;rintro e w7 ⟨rfl,hc,hb⟩;have Jg:=qqh hc;have kV:=qqh (fC.out.trans hb);have HR7:=qqh (Sl.out.keep (hb.keeps (X':=fun b=>b≠C∧w.heap.size≤b) (fun b h=>h.1) (fun b h _=>h)));clear hb hc;have FD:=qqh (eS w7 C _ n c L j2 93 Jg.out (by decide));cases hn:aQ L j2 93 with
   | error e0=>
    obtain⟨x,p⟩:=e0;rw [hn]at FD;have jC:=qqh (fB.out.symm.trans (IA jd.out RR.out Pq.out hn));clear hn;go_wp2_with fail;refine FD.out.mono ?_;rintro e w8 ⟨he,hb⟩;unfold aS at he;subst he;have xk:=qqh (kV.out.trans hb);clear hb;go_wp2_with fail;rw [jC.out];exact⟨rfl,rfl,xk.out⟩
   | ok k2=>
    rw [hn]at FD;have jC:=qqh (fB.out.symm.trans (JN jd.out RR.out Pq.out hn));clear hn;go_wp2_with fail;refine FD.out.mono ?_;rintro e w8 ⟨rfl,hc,hb⟩;have Qu:=qqh hc;have xk:=qqh (kV.out.trans hb);have HR8:=qqh (HR7.out.keep (hb.keeps (X':=fun b=>w.heap.size≤b) (fun b h=>h.1) (fun b h _=>h.2)));clear hb hc;go_wp2_with fail;go_ret;rw [jC.out];exact⟨⟨A6,n6,c6,rfl,HR8.out,Bw⟩,Qu.out,xk.out⟩
theorem av.apart {w:World} {C G:Nat} {A:Option Addr} {n c:Nat} {L:List Int} {i:Nat} {t:TypeId} {v:Value} (h:av w C A n c L i) (hG:ai w G t #[v]) (hv:∀ x,v≠.int .i32 x):cE w (fun b=>b≠C∧b≠G) 1 A n (runeCells L):=by
 refine⟨h.row.1,fun hn=>?_⟩;obtain⟨b,off,e,hb,hl,hc⟩:=h.row.2 hn;refine⟨b,off,e,⟨hb,fun he=>?_⟩,hl,hc⟩;subst he;have hlen:=h.len;obtain⟨x,hx⟩:∃ x,L[0]? = some x:=⟨_,List.getElem?_eq_getElem (by omega)⟩;have h1:=hc 0 (.int .i32 x) (by rw [ez,hx];rfl);rw [hG.cell]at h1;rcases off with _ | off
 ·simp at h1;exact hv x h1
 simp at h1
theorem av.set {w:World} {C G:Nat} {A:Option Addr} {n c:Nat} {L:List Int} {i:Nat} {t:TypeId} {v:Value} (h:av w C A n c L i) (hG:ai w G t #[v]) (hv:∀ x,v≠.int .i32 x) (hne:C≠G) (u:Value):av (w.setCell ⟨G,0,none⟩ u) C A n c L i:=by
 have hk:bJ w G (w.setCell ⟨G,0,none⟩ u):=bJ.set _ _ _ _;exact⟨h.blk.same (hk.2.2.2.2 C h.blk.lt hne),(h.apart hG hv).keep (hk.keeps (fun b h=>h.2) (fun b h _=>h.1)),h.size,h.le,h.cap⟩
structure eM (w:World) (C P G:Nat) (A:Option Addr) (n c:Nat) (L:List Int) (j:Nat) (s:af) (wr:World):Prop where
  cur:av wr C A n c L j
  box:ai wr P 125 #[.pointer (some ⟨C,0,none⟩)]
  set:∃ B m d,ai wr G 41 #[.slice B m d]∧cE wr (fun b=>b≠C∧b≠P∧b≠G∧w.heap.size≤b) 2 B m (ak s)∧m≤d
  right:aE s
  but:bJ w C wr
  lo:C<w.heap.size∧w.heap.size≤P∧w.heap.size≤G∧P≠G
section
variable {w wr w' : World} {C P G : Nat} {A : Option Addr} {n c : Nat} {L : List Int} {j : Nat} {s : af}
theorem eM.iN (h:eM w C P G A n c L j s wr) (hb:bJ wr C w') {k:Nat} (hc:av w' C A n c L k):eM w C P G A n c L k s w':=by
 obtain⟨B,m,d,h1,h2,h3⟩:=h.set;obtain⟨l1,l2,l3,l4⟩:=h.lo;exact⟨hc,(hb.2.2.2.2 P h.box.lt (by omega)).trans h.box,⟨B,m,d,(hb.2.2.2.2 G h1.lt (by omega)).trans h1,h2.keep (hb.keeps (fun b h=>h.1) (fun b h _=>h)),h3⟩,h.right,h.but.trans hb,h.lo⟩
theorem eM.below (h:eM w C P G A n c L j s wr) (hb:Below wr.heap.size wr w'):eM w C P G A n c L j s w':=h.iN (bJ.below C hb) (h.cur.below hb)
theorem eM.drew (h:eM w C P G A n c L j s wr):eM w C P G A n c L j s wr.drew:=h.below ((Below.refl _ _).drew)
theorem eM.put (h:eM w C P G A n c L j s wr) {t:af} {B:Option Addr} {m d:Nat} (hr:cE wr (fun b=>b≠C∧b≠P∧b≠G∧w.heap.size≤b) 2 B m (ak t)) (hd:m≤d) (ht:aE t) :
    eM w C P G A n c L j t (wr.setCell ⟨G,0,none⟩ (.slice B m d)):=by
 obtain⟨B0,m0,d0,h1,h2,h3⟩:=h.set;obtain⟨l1,l2,l3,l4⟩:=h.lo;have hk:bJ wr G (wr.setCell ⟨G,0,none⟩ (.slice B m d)):=bJ.set _ _ _ _;refine⟨h.cur.set h1 (fun x e=>by cases e) (by omega) _,(hk.2.2.2.2 P h.box.lt l4).trans h.box,⟨B,m,d,h1.put 0 _,hr.keep (hk.keeps (fun b h=>h.2.2.1) (fun b h _=>h)),hd⟩,ht,?_,h.lo⟩;exact⟨Nat.le_trans h.but.1 hk.1,hk.2.1.trans h.but.2.1,hk.2.2.1.trans h.but.2.2.1,hk.2.2.2.1.trans h.but.2.2.2.1,fun b hb hne=>(hk.2.2.2.2 b (Nat.lt_of_lt_of_le hb h.but.1) (by omega)).trans (h.but.2.2.2.2 b hb hne)⟩
end
theorem eM.arg {w wr:World} {C P G:Nat} {A:Option Addr} {n c:Nat} {L:List Int} {j:Nat} {s:af} (h:eM w C P G A n c L j s wr) {B:Option Addr} {m d:Nat} (hb:ai wr G 41 #[.slice B m d]):bU wr B m d s:=by
 obtain⟨B0,m0,d0,h1,h2,h3⟩:=h.set;have e : #[Value.slice B m d] = #[.slice B0 m0 d0]:=by
  unfold ai at hb h1;rw [hb]at h1;injection h1 with h1;injection h1
 have e2:Value.slice B m d=.slice B0 m0 d0:=(by simpa using e);cases e2;exact⟨h.right,h2.of,h3⟩
theorem eM.part {w wx w1:World} {C P G:Nat} {A:Option Addr} {n c:Nat} {L:List Int} {j j2:Nat} {s t:af} {e:Ending} (h:eM w C P G A n c L j s wx) (ht:aE t) (hp:ef wx C A n c L (.ok (t,j2)) e w1) :
    ∃ B m d,e=.returned (.slice B m d)∧eM w C P G A n c L j2 s w1∧bU w1 B m d t∧bJ wx C w1:=by
 obtain⟨⟨B,m,d,rfl,hr,hd⟩,hc,hb⟩:=hp;exact⟨B,m,d,rfl,h.iN hb hc,⟨ht,hr.of,hd⟩,hb⟩
theorem eM.lQ {w wx w1:World} {C P G:Nat} {A:Option Addr} {n c:Nat} {L:List Int} {j:Nat} {s:af} {cs:Array Value} {t:TypeId} (h:eM w C P G A n c L j s wx) (hb:bJ wx C w1) (hG:ai wx G t cs):ai w1 G t cs :=
  (hb.2.2.2.2 G hG.lt (by have:=h.lo;omega)).trans hG
theorem eM.eZ {w wx:World} {C P G:Nat} {A:Option Addr} {n c:Nat} {L:List Int} {j:Nat} {s:af} (h:eM w C P G A n c L j s wx):wx.cell? ⟨P,0,none⟩=some (.pointer (some ⟨C,0,none⟩)):=h.box.cell 0
theorem eM.op {w w1 w2:World} {C P G:Nat} {A:Option Addr} {n c:Nat} {L:List Int} {j:Nat} {s:af} {r:af × Int} {e:Ending} (h:eM w C P G A n c L j s w1) (hp:bR w1 r e w2) :
    ∃ B m d,e=.returned (.tuple #[.slice B m d,.int .i64 r.2])∧eM w C P G A n c L j s w2∧cE w2 (fun b=>b≠C∧b≠P∧b≠G∧w.heap.size≤b) 2 B m (ak r.1)∧m≤d∧Below w1.heap.size w1 w2:=by
 obtain⟨B,m,d,rfl,h1,_,h2,h3⟩:=hp;refine⟨B,m,d,rfl,h.below h3,h1.lift (fun b hb=>?_),h2,h3⟩;obtain⟨B0,m0,d0,g1,_⟩:=h.set;have l1:=h.cur.blk.lt;have l2:=h.box.lt;have l3:=g1.lt;have l4:=h.but.1;exact⟨by omega,by omega,by omega,by omega⟩
theorem nN (B:Option Addr) (m d P G:Nat) (v:Value) (w:World) (hG:ai w G 41 #[v]) :
    Calls Tryz.prog 80 (#[.slice B m d,.int .i64 0] ++ #[.pointer (some ⟨P,0,none⟩),.pointer (some ⟨G,0,none⟩)]) w fun e w'=>e=.returned (.tuple #[])∧w'=w.setCell ⟨G,0,none⟩ (.slice B m d):=by
 have c0:=hG.cell 0;have f0:=hG.frozen 0;clear hG;go_enter Tryz.func80,Tryz.ntmps80;go_wp2_with fail;go_end0;exact⟨rfl,rfl⟩
theorem lU (B:Option Addr) (m d C P G:Nat) (A:Option Addr) (n c:Nat) (L:List Int) (j:Nat) (x:Int) (w:World) (hx:x≠0) (hP:ai w P 125 #[.pointer (some ⟨C,0,none⟩)]) (hC:av w C A n c L j) :
    Calls Tryz.prog 80 (#[.slice B m d,.int .i64 x] ++ #[.pointer (some ⟨P,0,none⟩),.pointer (some ⟨G,0,none⟩)]) w fun e w'=>e=aS x j∧w'=w:=by
 have c0:=hP.cell 0;have d0:=hC.blk.cell 1;have hx2:(x != 0)=true:=(by simp;exact hx);have HF:=qqh (fun(W:World)=>bV x j W);clear hP hC hx;go_enter Tryz.func80,Tryz.ntmps80;go_wp2_with fail;refine(HF.out _).mono ?_;rintro e w3 ⟨rfl,rfl⟩;go_wp2_with fail;exact⟨rfl,rfl,rfl⟩
end Go.Proofs.YthgkedoildcbcaaGreatDoor
