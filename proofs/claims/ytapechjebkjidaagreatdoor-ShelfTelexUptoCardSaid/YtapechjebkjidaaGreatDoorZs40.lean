/- RdQuoted + RdFr + CurClass + SetFr -/
import Derived.Test.YtapechjebkjidaaGreatDoorZs39
import Derived.Test.YtapechjebkjidaaGreatDoorZs12
import Derived.Test.YtapechjebkjidaaGreatDoorZs23
set_option maxHeartbeats 6400000
set_option maxRecDepth 100000
namespace Go.Proofs.YtapechjebkjidaaGreatDoor
open Go.RowKit
theorem Aj:(Tryz.prog.info? 167).map (fun i=>(i.zero,i.size,i.bytes))=some (some (.agg #[.int .i64 0,.int .i32 0,.slice none 0 0,.string ⟨#[]⟩]),4,56):=by kernel_rfl
def hJ (l:List Int):List Value:=l.flatMap fun x=>[.int .i64 1,.int .i32 x,.slice none 0 0,.string ⟨#[]⟩]
theorem ED (l:List Int) (x:Int):hJ (l++[x])=hJ l++[.int .i64 1,.int .i32 x,.slice none 0 0,.string ⟨#[]⟩]:=by simp [hJ]
theorem RD (x:Int):∀ u ∈ [Value.int .i64 1,.int .i32 x,.slice none 0 0,.string ⟨#[]⟩],u.oneCell'=true:=by
 intro u hu;simp at hu;rcases hu with rfl | rfl | rfl | rfl <;> rfl
theorem DA {L:List Int} {a j:Nat} (ha:a≤j) (hj:j<L.length):aO L a (j+1)=aO L a j++[pk L j]:=by
 unfold aO;rw [show j+1 - a=(j - a)+1 by omega,List.take_add_one,List.getElem?_drop,show a+(j - a)=j by omega,List.getElem?_eq_getElem hj,Ix (List.getElem?_eq_getElem hj)];rfl
theorem DD (L:List Int) (a:Nat):aO L a a = []:=by unfold aO;rw [Nat.sub_self];rfl
theorem fy {w w1 w2:World} {C:Nat} (h:bM w C w1) (hb:Below w.heap.size w1 w2):bM w C w2 :=
  ⟨Nat.le_trans h.1 hb.size,hb.os.trans h.2.1,hb.tape.trans h.2.2.1,hb.output.trans h.2.2.2.1,fun k hk hne=>(hb.block k hk).trans (h.2.2.2.2 k hk hne)⟩
structure iL (lo:Nat) (w:World) (C:Nat) (A:Option Addr) (n c:Nat) (L:List Int) (i:Nat):Prop where
  cur:ax w C A n c L i
  row:di w (fun b=>b≠C∧b<lo) 1 A n (runeCells L)
  lt:C<lo
theorem iL.start {w:World} {C:Nat} {A:Option Addr} {n c:Nat} {L:List Int} {i:Nat} (h:ax w C A n c L i):iL w.heap.size w C A n c L i :=
  ⟨h,h.row.keep (fun _ hX hl=>⟨rfl,⟨hX,hl⟩,hl⟩),h.blk.lt⟩
theorem iL.but {lo:Nat} {w w':World} {C:Nat} {A:Option Addr} {n c:Nat} {L:List Int} {i j:Nat} (h:iL lo w C A n c L i) (hc:ax w' C A n c L j) (hb:bM w C w'):iL lo w' C A n c L j :=
  ⟨hc,h.row.keep (hb.keeps (fun _ h=>h.1) (fun _ h _=>h)),h.lt⟩
theorem iL.below {lo:Nat} {w w':World} {C:Nat} {A:Option Addr} {n c:Nat} {L:List Int} {i:Nat} (h:iL lo w C A n c L i) (hb:Below lo w w'):iL lo w' C A n c L i:=by
 have hr:di w' (fun b=>b≠C∧b<lo) 1 A n (runeCells L):=h.row.keep (fun b hX hl=>⟨hb.block b hX.2,hX,Nat.lt_of_lt_of_le hl hb.size⟩);exact⟨⟨h.cur.blk.same (hb.block C h.lt),hr.lift (fun _ h=>h.1),h.cur.size,h.cur.le,h.cur.cap⟩,hr,h.lt⟩
theorem iL.drewN {lo:Nat} {w:World} {C:Nat} {A:Option Addr} {n c:Nat} {L:List Int} {i:Nat} (h:iL lo w C A n c L i) (k:Nat):iL lo (w.drewN k) C A n c L i:=h.but (h.cur.drewN k) (bM.drewN w C k)
def Mp (w:World) (C:Nat) (A:Option Addr) (n c:Nat) (L:List Int) (i:Nat) (e:Ending) (w':World):Prop :=
  (pk L (aA lC L (i+1))=39∧(∃ B m d,e=.returned (.slice B m d)∧di w' (fun b=>w.heap.size≤b) 4 B m (hJ (aO L (i+1) (aA lC L (i+1))))∧m≤d∧m≤n)∧ax w' C A n c L (aA lC L (i+1)+1)∧bM w C w') ∨
    (pk L (aA lC L (i+1))≠39∧e=aV 2 (aA lC L (i+1))∧bM w C w')
theorem Jn (w:World) (C:Nat) (A:Option Addr) (n c:Nat) (L:List Int) (i:Nat) (h:ax w C A n c L i) (hi:i<n) (hn:n≤100000) :
    Calls Tryz.prog 129 #[.pointer (some ⟨C,0,none⟩)] w (Mp w C A n c L i):=by
 obtain⟨i0,Lt,z0,z1,z2⟩:=info_parts Aj;have hl:=h.len;have hw1:IntKind.i64.wrap ((i:Int)+1)=(i:Int)+1:=wrap_small _ (by omega) (by omega);obtain⟨d1,d2,d3,d4⟩:=h.step hi;have ZU:=Lib.hid ((iL.start h).but d3 d4);have ek:=Lib.hid d4;have iA:=Lib.hid (fun(W:World) (m:Nat) (h:ax W C A n c L m)=>mJ W C A n c L m h);obtain⟨r,hr⟩:∃ r,aA lC L (i+1)=r:=⟨_,rfl⟩;have HR:=Lib.hid hr;unfold Mp;rw [hr];clear h d3 d4 hr;go_enter Tryz.func129,Tryz.ntmps129;go_wp2_with fail;go_loopw [3] (fun out wr=>∃ j:Nat,i+1≤j∧j≤n∧r=aA lC L j∧wr.ownsRow w.heap.size 167 4 out (j - (i+1)) (hJ (aO L (i+1) j))∧iL w.heap.size wr C A n c L j∧bM w C wr) (fun _ wr=>n - (match wr.cell? ⟨C,1,none⟩with | some (.int _ j)=>j.toNat | _=>0));(case atStart=>exact⟨i+1,Nat.le_refl _,hi,HR.out.symm,by rw [Nat.sub_self,DD];exact World.ownsRow_nil _ _ _ _,ZU.out,ek.out⟩);obtain⟨j,hij,hjn,hrun,hown,uQ,CI⟩:=hrel;have HJ:=Lib.hid uQ;have HB:=Lib.hid CI;have HO:=Lib.hid hown;have Ud:=Lib.hid hrun;have nU:=Lib.hid (uQ.cur.blk.cell 1);obtain⟨Av,cv,rfl,sZ⟩:=aH hown;have hwj:IntKind.i64.wrap ((j:Int)+1)=(j:Int)+1:=wrap_small _ (by omega) (by omega);obtain⟨x,hx⟩:∃ x,pk L j=x:=⟨_,rfl⟩;have HX:=Lib.hid hx;have HP:=Lib.hid (fun(W:World) (h:ax W C A n c L j)=>show Calls Tryz.prog 58 #[.pointer (some ⟨C,0,none⟩)] W fun e w'=>e=.returned (.int .i32 x)∧∃ m,w'=W.drewN m by have:=iA.out W j h;rwa [hx]at this);clear uQ CI hown hrun hx;by_cases zh:x=39
 ·have hj:r=j:=Ud.out.trans (cQ (fun _=>by rw [HX.out,zh];rfl));have hlt:j<n:=(by rw [← hl];exact bw (by rw [HX.out];omega));subst zh;go_wp2_with fail;refine(HP.out _ HJ.out.cur).mono ?_;rintro e w3 ⟨rfl,m3,GH⟩;have lY:=Lib.hid (HJ.out.drewN m3);have bW:=Lib.hid (HB.out.trans (bM.drewN _ C m3));have tJ:=Lib.hid (show(World.drewN _ m3).ownsRow w.heap.size 167 4 _ _ _ from HO.out);rw [← GH]at lY bW tJ;clear GH;have qn:=Lib.hid (di.cj (X:=fun b=>w.heap.size≤b) tJ.out (fun b hb=>(bG tJ.out hb).1));obtain⟨s1,s2,s3,s4⟩:=lY.out.cur.step hlt;have zO:=Lib.hid s3;have eM:=Lib.hid (bW.out.trans s4);have hCl:=lY.out.lt;have abG:=Lib.hid (qn.out.keep (s4.keeps (X':=fun b=>w.heap.size≤b) (fun b h=>by omega) (fun b h _=>h)));clear s3 s4;have ZQ:=Lib.hid hj;clear hj;go_wp2_with fail;go_ret;left;rw [ZQ.out];exact⟨HX.out,⟨Av,_,cv,rfl,abG.out,sZ,by omega⟩,zO.out,eM.out⟩
 have ae':(x != 39)=true:=(by simp;exact zh);by_cases hneg:x<0
 ·have hj:r=j:=Ud.out.trans (cQ (fun _=>by rw [HX.out];unfold lC;rw [decide_eq_false (by omega)];rfl));have ZQ:=Lib.hid hj;have Et:=Lib.hid (show pk L j≠39 by rw [HX.out];exact zh);clear hj zh;go_wp2_with fail;refine(HP.out _ HJ.out.cur).mono ?_;rintro e w3 ⟨rfl,m3,GH⟩;have lY:=Lib.hid (HJ.out.drewN m3);have bW:=Lib.hid (HB.out.trans (bM.drewN _ C m3));have tJ:=Lib.hid (show(World.drewN _ m3).ownsRow w.heap.size 167 4 _ _ _ from HO.out);rw [← GH]at lY bW tJ;clear GH;go_wp2_with fail;refine(HP.out _ lY.out.cur).mono ?_;rintro e w4 ⟨rfl,m4,Vt⟩;have Gj:=Lib.hid (lY.out.drewN m4);have eM:=Lib.hid (bW.out.trans (bM.drewN _ C m4));have sx:=Lib.hid (show(World.drewN _ m4).ownsRow w.heap.size 167 4 _ _ _ from tJ.out);rw [← Vt]at Gj eM sx;clear Vt;have k1:=Gj.out.cur.blk.cell 1;go_wp2_with fail;refine(b8 2 j _).mono ?_;rintro e w5 ⟨rfl,rfl⟩;go_wp2_with fail;rw [ZQ.out];exact⟨rfl,.inr ⟨Et.out,rfl,eM.out⟩⟩
 have hge:decide (x<0)=false:=decide_eq_false hneg;have hlt:j<n:=(by rw [← hl];exact bw (by rw [HX.out];omega));have LH:=Lib.hid (Ud.out.trans (dU (p:=lC) (by omega) (by rw [HX.out];unfold lC;simp;omega)));have Ft:=Lib.hid (show hJ (aO L (i+1) (j+1))=hJ (aO L (i+1) j)++[.int .i64 1,.int .i32 x,.slice none 0 0,.string ⟨#[]⟩] by rw [DA hij (by omega),ED,HX.out]);clear zh hneg;go_wp2_with fail;refine(HP.out _ HJ.out.cur).mono ?_;rintro e w3 ⟨rfl,m3,GH⟩;have lY:=Lib.hid (HJ.out.drewN m3);have bW:=Lib.hid (HB.out.trans (bM.drewN _ C m3));have tJ:=Lib.hid (show(World.drewN _ m3).ownsRow w.heap.size 167 4 _ _ _ from HO.out);rw [← GH]at lY bW tJ;clear GH;go_wp2_with fail;refine(HP.out _ lY.out.cur).mono ?_;rintro e w4 ⟨rfl,m4,Vt⟩;have Gj:=Lib.hid (lY.out.drewN m4);have eM:=Lib.hid (bW.out.trans (bM.drewN _ C m4));have sx:=Lib.hid (show(World.drewN _ m4).ownsRow w.heap.size 167 4 _ _ _ from tJ.out);rw [← Vt]at Gj eM sx;clear Vt;have E2:=Lib.hid (fun(W:World)=>Rd.new W 167 4 1 [.int .i64 1,.int .i32 x,.slice none 0 0,.string ⟨#[]⟩] rfl);go_wp2_with fail;refine(HP.out _ Gj.out.cur).mono ?_;rintro e w5 ⟨rfl,m5,Ox⟩;have IS:=Lib.hid (Gj.out.drewN m5);have eK:=Lib.hid (eM.out.trans (bM.drewN _ C m5));have yF:=Lib.hid (show(World.drewN _ m5).ownsRow w.heap.size 167 4 _ _ _ from sx.out);rw [← Ox]at IS eK yF;clear Ox;have Cs:=Lib.hid (World.ownsRow.alloc yF.out (.cells #[.int .i64 1,.int .i32 x,.slice none 0 0,.string ⟨#[]⟩] 167));have fH:=(Below.refl w5.heap.size w5).alloc (Nat.le_refl _) (.cells #[.int .i64 1,.int .i32 x,.slice none 0 0,.string ⟨#[]⟩] 167);have Ox:=eK.out.1;have iS:=Lib.hid (bM.below (w:=w5) C fH)
 have nX:=Lib.hid (eK.out.trans iS.out);have BU:=Lib.hid (IS.out.below (fH.mono Ox));have hsz:=nX.out.1;clear fH;go_wp2_with (at_builtin;refine ai _ rfl (.tmp 29) (.tmp 35) 93 rfl w.heap.size 167 i0 _ 4 56 Tryz.underlying93 Lt z0 z1 z2 rfl (by decide) _ _ _ rfl Cs.out (w5.heap.size+1) (some ⟨w5.heap.size,0,none⟩) 1 1 [.int .i64 1,.int .i32 x,.slice none 0 0,.string ⟨#[]⟩] rfl (E2.out w5) (RD x) (by simp only [maxLen];omega) (by omega) hsz ?_);intro v' w9 an;have cV:=an.below hsz Cs.out;have Lg:=Lib.hid (BU.out.below cV);have fN:=Lib.hid (fy nX.out cV);have jw:=Lib.hid (show w9.ownsRow w.heap.size 167 4 v' (j+1 - (i+1)) (hJ (aO L (i+1) (j+1))) by
  have:=an.own;rw [Ft.out,show j+1 - (i+1)=j - (i+1)+1 by omega];exact this)
 clear an cV;obtain⟨s1,s2,s3,s4⟩:=Lg.out.cur.step hlt;have HJA:=Lib.hid (Lg.out.but s3 s4);have ON:=Lib.hid (fN.out.trans s4);have hCl:=Lg.out.lt;obtain⟨A9,c9,rfl,_⟩:=aH jw.out;have HOA:=Lib.hid (ownsRow_setCell_below jw.out (a:=⟨C,1,none⟩) hCl (.int .i64 ((j:Int)+1)));clear s3 s4;go_wp2_with fail;refine⟨⟨j+1,by omega,hlt,LH.out,HOA.out,HJA.out,ON.out⟩,?_⟩;have e1:(w9.setCell ⟨C,1,none⟩ (.int .i64 ((j:Int)+1))).cell? ⟨C,1,none⟩=some (.int .i64 ((j+1:Nat):Int)):=HJA.out.cur.blk.cell 1;have e2:wr.cell? ⟨C,1,none⟩=some (.int .i64 (j:Int)):=nU.out;rw [e1,e2];simp only [Int.toNat_natCast];omega
def ig (w:World) (X:Nat→Prop) (a:aG) (cs:List Value):Prop :=
  ∃ A n c,cs = [.int .i64 a.kind,.int .i32 a.rune,.slice A n c,.string a.name]∧di w X 2 A n (aj a.set)∧n≤c∧n≤maxLen
theorem ig.keep {w w':World} {X X':Nat→Prop} (hk:ag w X w' X') (a:aG) (cs:List Value) (h:ig w X a cs):ig w' X' a cs:=by
 obtain⟨A,n,c,e,h1,h2⟩:=h;exact⟨A,n,c,e,h1.keep hk,h2⟩
theorem ig.one {w:World} {X:Nat→Prop} {a:aG} {cs:List Value} (h:ig w X a cs):∀ u∈cs,u.oneCell'=true:=by
 obtain⟨A,n,c,rfl,_⟩:=h;intro u hu;simp at hu;rcases hu with rfl | rfl | rfl | rfl <;> rfl
def yd (lo C:Nat) (v:Value) (b:Nat):Prop:=lo≤b∧b≠C∧v.ownBlock≠some b
def gI (lo C:Nat) (w:World) (v:Value) (l:List aG):Prop:=dD (ig w (yd lo C v)) 167 4 w lo v l
theorem Is {w w':World} {C base sz n:Nat} {e:TypeId} {v:Value} {xs:List Value} (h:w.ownsRow base e sz v n xs) (hb:bM w C w') (hC:C<base):w'.ownsRow base e sz v n xs:=by
 refine⟨h.1,?_⟩;rcases h.2 with h2 | ⟨g,cap,cur,hv,hg,hh,r⟩;exact .inl h2;exact .inr ⟨g,cap,cur,hv,hg,(hb.2.2.2.2 g (Array.getElem?_eq_some_iff.1 hh).1 (by omega)).trans hh,r⟩
theorem gI.but {lo C:Nat} {w w':World} {v:Value} {l:List aG} (h:gI lo C w v l) (hb:bM w C w') (hC:C<lo):gI lo C w' v l :=
  dD.kept (fun _ _ ho=>Is ho hb hC) (ig.keep (hb.keeps (fun _ h=>h.2.1) (fun _ h _=>h))) h
theorem Cn {lo C m sz:Nat} {e:TypeId} {v v':Value} {ys:List Value} {w w2:World} (ha:aS lo e sz v w m ys v' w2):ag w (yd lo C v) w2 (yd lo C v'):=by
 refine ag.app ha (fun b hb=>hb.2.2) (fun b hb hl=>⟨hb.1,hb.2.1,?_⟩);rcases ha.2.2 with e | e
 ·rw [e];exact hb.2.2
 rw [e];intro h;injection h with h;omega
theorem gI.push {lo C:Nat} {w:World} {v:Value} {l:List aG} (h:gI lo C w v l) (a:aG) {cs:List Value} (ha:ig w (yd lo C v) a cs) (hcs:cs.length=4) :
    ∃ ys,w.ownsRow lo 167 4 v l.length ys∧∀ v' w',aS lo 167 4 v w (l.length+1) (ys++cs) v' w'→gI lo C w' v' (l++[a]):=by
 obtain⟨css,h1,h2,h3,h4⟩:=h;refine⟨css.flatten,h4,fun v' w' an=>?_⟩;have hk:ag w (yd lo C v) w' (yd lo C v'):=Cn an;exact dD.push h1 h2 h3 (ig.keep hk) (ha.keep hk) hcs an
def qc (x:Int):List Value:=[.int .i64 1,.int .i32 x,.slice none 0 0,.string ⟨#[]⟩]
theorem Qz (rs:List Int):(rs.map qc).flatten=hJ rs:=by unfold hJ;rw [List.flatMap_def];rfl
theorem B5 (w:World) (X:Nat→Prop) (x:Int):ig w X (mH x) (qc x):=⟨none,0,0,rfl,⟨rfl,fun h=>absurd h (by omega)⟩,Nat.le_refl _,Nat.zero_le _⟩
theorem gI.Wv {lo C:Nat} {w:World} {v:Value} {l:List aG} (h:gI lo C w v l) (rs:List Int) :
    ∃ ys,w.ownsRow lo 167 4 v l.length ys∧∀ v' w',aS lo 167 4 v w (l.length+rs.length) (ys++hJ rs) v' w'→gI lo C w' v' (l++rs.map mH):=by
 obtain⟨css,h1,h2,h3,h4⟩:=h;refine⟨css.flatten,h4,fun v' w' an=>?_⟩;have hk:ag w (yd lo C v) w' (yd lo C v'):=Cn an;refine⟨css++rs.map qc,by simp [h1],?_,?_,?_⟩
 ·intro i a cs ha hc;rcases Nat.lt_or_ge i l.length with hi | hi
  ·rw [List.getElem?_append_left hi]at ha;rw [List.getElem?_append_left (by omega)]at hc;exact ig.keep hk a cs (h2 i a cs ha hc)
  rw [List.getElem?_append_right hi,List.getElem?_map]at ha;rw [List.getElem?_append_right (by omega),h1,List.getElem?_map]at hc;cases hx:rs[i - l.length]? with
  | none=>rw [hx]at ha;cases ha
  | some x=>
   rw [hx]at ha hc;obtain rfl:=Option.some.inj ha;obtain rfl:=Option.some.inj hc;exact B5 w' _ x
 ·intro cs hc;rcases List.mem_append.1 hc with hc | hc;exact h3 cs hc;obtain⟨x,_,rfl⟩:=List.mem_map.1 hc;rfl
 have:=an.own;rw [List.flatten_append,Qz,List.length_append,List.length_map];exact this
theorem gI.form {lo C:Nat} {w:World} {v:Value} {l:List aG} (h:gI lo C w v l):∃ A c,v=.slice A l.length c∧l.length≤c:=dD.form h
theorem gI.nil (lo C:Nat) (w:World):gI lo C w (.slice none 0 0) []:=dD.nil _ _
theorem gI.below {lo C:Nat} {w w':World} {v:Value} {l:List aG} (h:gI lo C w v l) (hb:Below w.heap.size w w'):gI lo C w' v l :=
  dD.kept (fun _ _ ho=>cS ho hb) (ig.keep (ag.any hb)) h
theorem gI.apart {lo C:Nat} {w:World} {v:Value} {l:List aG} (h:gI lo C w v l) {b:Nat} (hb:w.heap.size≤b):v.ownBlock≠some b:=by
 obtain⟨css,h1,h2,h3,h4⟩:=h;intro e;have:=(bG h4 e).2;omega
def Xs (p:Int→Bool) (w:World) (C:Nat) (A:Option Addr) (n c:Nat) (L:List Int) (a r:Nat) (wr:World):Prop :=
  ∃ j,a≤j∧j≤n∧r=aA p L j∧ax wr C A n c L j∧bM w C wr
theorem J2 {L:List Int} {i r:Nat} (hr:aA cY L (i+2)=r) (h:gT (aO L (i+2) r)=none):eS L i=.error (7,i+2):=by subst hr;unfold eS;rw [h]
theorem KY {L:List Int} {i r:Nat} {s:af} {e:Int × Nat} (hr:aA cY L (i+2)=r) (h:gT (aO L (i+2) r)=some s) (h2:aU L r 58=.error e):eS L i=.error e:=by subst hr;unfold eS;rw [h];simp only;rw [h2]
theorem K5 {L:List Int} {i r j:Nat} {s:af} {e:Int × Nat} (hr:aA cY L (i+2)=r) (h:gT (aO L (i+2) r)=some s) (h2:aU L r 58=.ok j) (h3:aU L j 93=.error e):eS L i=.error e:=by subst hr;unfold eS;rw [h];simp only;rw [h2];simp only;rw [h3]
theorem ND {L:List Int} {i r j k:Nat} {s:af} (hr:aA cY L (i+2)=r) (h:gT (aO L (i+2) r)=some s) (h2:aU L r 58=.ok j) (h3:aU L j 93=.ok k):eS L i=.ok (s,k):=by subst hr;unfold eS;rw [h];simp only;rw [h2];simp only;rw [h3]
theorem tG (l:List Int) (h:l.length≤4611686018427387904) (h2:l.length≤100000):(runesBytes l).size≤maxLen:=by
 have:=runesBytes_size_le l;simp only [maxLen];omega
theorem JO (w:World) (C:Nat) (A:Option Addr) (n c:Nat) (L:List Int) (i:Nat) (h:ax w C A n c L i) (hL:gL L) (hi:i+2≤n) (hn:n≤100000) :
    Calls Tryz.prog 104 #[.pointer (some ⟨C,0,none⟩)] w (eC w C A n c L (eS L i)):=by
 have hs:=h.size;have hlen:=h.len;obtain⟨b,off,rfl,_,_⟩:=h.at (by omega);have HL:=Lib.hid hL;have c0:=h.blk.cell 0;have c1:=h.blk.cell 1;have f1:=h.blk.frozen 1;have hw1:IntKind.i64.wrap ((i:Int)+2)=(i:Int)+2:=wrap_small _ (by omega) (by omega);have hm:=h.move (j:=i+2) hi;have Tr:=bM.set w C 1 (.int .i64 ((i+2:Nat):Int));rw [show(((i+2:Nat)):Int)=(i:Int)+2 by omega]at hm Tr;have HM:=Lib.hid hm;have bT:=Lib.hid Tr;obtain⟨R,hR⟩:∃ R,eS L i=R:=⟨_,rfl⟩;rw [hR];have fI:=Lib.hid hR;clear hL hm h Tr hR;obtain⟨r,hr⟩:∃ r,aA cY L (i+2)=r:=⟨_,rfl⟩;have lU:=Lib.hid hr;have hi2:((i+2:Nat):Int)=(i:Int)+2:=(by omega);obtain⟨a,ha⟩:∃ a,i+2=a:=⟨_,rfl⟩;have haI:(i:Int)+2=(a:Int):=(by omega);have HA:=Lib.hid ha;rw [haI]at HM bT hw1;rw [ha]at HM;clear hr hi2;go_enter Tryz.func104,Tryz.ntmps104;go_wp2_with fail;go_loopw [17] (fun _ wr=>Xs cY w C (some ⟨b,off,none⟩) n c L a r wr) (fun _ wr=>n - (match wr.cell? ⟨C,1,none⟩with | some (.int _ j)=>j.toNat | _=>0));(case atStart=>exact⟨a,Nat.le_refl _,HM.out.le,by rw [← lU.out,HA.out],HM.out,bT.out⟩);obtain⟨j,haj,hj,hrun,uQ,CI⟩:=hrel;have HJ:=Lib.hid uQ;have HB:=Lib.hid CI;have HR:=Lib.hid hrun;have iA:=Lib.hid (fun(W:World) (h:ax W C (some ⟨b,off,none⟩) n c L j)=>cM W C (some ⟨b,off,none⟩) n c L j h);have nU:=Lib.hid (uQ.blk.cell 1);have uH:=Lib.hid (fun(W:World)=>pF (pk L j) W (HL.out.pk j));clear uQ CI hrun;by_cases Fs:cY (pk L j)=true
 ·rw [Fs]at uH;have hlt:j<L.length:=bw (fun e=>by rw [e]at Fs;exact absurd Fs (by decide));have Dj:IntKind.i64.wrap ((j:Int)+1)=(j:Int)+1:=wrap_small _ (by omega) (by omega);go_wp2_with fail;refine(iA.out _ HJ.out).mono ?_;rintro e w2 ⟨rfl,hc2,aL⟩;have qy:=Lib.hid hc2;have aW:=Lib.hid (HB.out.trans aL);clear hc2 aL;go_wp2_with fail;refine(uH.out _).mono ?_;rintro e w3 ⟨rfl,bQ⟩;have rm:=Lib.hid (qy.out.below bQ);have bW:=Lib.hid (aW.out.trans (bM.below C bQ));clear bQ;obtain⟨d1,d2,d3,d4⟩:=rm.out.step (by omega);have vN:=Lib.hid d3;have eM:=Lib.hid (bW.out.trans d4);clear d3 d4;go_wp2_with fail;refine⟨⟨j+1,by omega,by omega,HR.out.trans (dU hlt Fs),vN.out,eM.out⟩,?_⟩;have e1:(w3.setCell ⟨C,1,none⟩ (.int .i64 ((j:Int)+1))).cell? ⟨C,1,none⟩=some (.int .i64 ((j+1:Nat):Int)):=vN.out.blk.cell 1;have e2:wr.cell? ⟨C,1,none⟩=some (.int .i64 (j:Int)):=nU.out;rw [e1,e2];simp only [Int.toNat_natCast];omega
 rw [Bool.not_eq_true]at Fs;rw [Fs]at uH;obtain rfl:r=j:=HR.out.trans (cQ (fun _=>Fs));clear HR;go_wp2_with fail;refine(iA.out _ HJ.out).mono ?_;rintro e w2 ⟨rfl,hc2,aL⟩;have qy:=Lib.hid hc2;have aW:=Lib.hid (HB.out.trans aL);clear hc2 aL;go_wp2_with fail;refine(uH.out _).mono ?_;rintro e w3 ⟨rfl,bQ⟩;have rm:=Lib.hid (qy.out.below bQ);have bW:=Lib.hid (aW.out.trans (bM.below C bQ));have RI:=Lib.hid (show Below w3.heap.size w3 w3.drew from(Below.refl _ _).drew);clear bQ;have d0:=rm.out.blk.cell 0;have d1:=rm.out.blk.cell 1;have sZ:=wX (rm.out.drewN 1) haj hj;have hk1:(a:Int)≤(r:Int):=(by omega);have hk2:(r:Int)≤(c:Int):=(by have:=rm.out.cap;omega);have Q3:(0:Int)≤(a:Int):=(by omega);have hts:(runesBytes (aO L a r)).size≤maxLen:=tG _ (by unfold aO;rw [List.length_take];omega) (by unfold aO;rw [List.length_take];omega);have HCT:=Lib.hid (Hz (aO L a r));generalize runesBytes (aO L a r)=T at *;have yG:=Lib.hid (fun(W:World)=>Lj T W hts);clear hts;cases Ga:gT (aO L a r)with
 | none=>
  have HT:=Lib.hid (HCT.out.trans Ga);have mq:=Lib.hid (show R=.error (7,i+2) from fI.out.symm.trans (J2 lU.out (by rw [HA.out];exact Ga)));clear Ga;go_upto_region 5 with fail;refine aB (S:=(fun w'=>w'.cell? ⟨C,0,none⟩=some (.slice (some ⟨b,off,none⟩) n c)∧w'.cell? ⟨C,1,none⟩=some (.int .i64 r)∧(convert 29 9 (.slice (if c=a then some ⟨b,off,none⟩else some ⟨b,off+a,none⟩) (r - a) (c - a))).run Tryz.prog w'=.ok (.string T) w')) [3,8,10] (by kernel_rfl) ⟨d0,d1,sZ⟩ (fun bt=>?_);apply tp 0 28 rfl (by kernel_rfl) (fun _ _ _ h=>h) (by rfl)
  ·intro wq _;go_simp;(try with_reducible rfl)
  (try simp only [zp,za,z0,zs]);apply tp 1 29 rfl (by kernel_rfl) (fun _ _ _ h=>h) (by rfl)
  ·intro wq _;go_simp;(try with_reducible rfl)
  (try simp only [zp,za,z0,zs]);apply tp 2 30 rfl (by kernel_rfl) (fun _ _ _ h=>h) (by rfl)
  ·intro wq _;go_simp;(try with_reducible rfl)
  (try simp only [zp,za,z0,zs]);apply tt 3 31 rfl (by kernel_rfl) (fun _ _ _ h=>h) (by rfl) (by assumption)
  ·intro wq bR;(try dsimp only at bR);go_simp;(try with_reducible rfl)
  (try simp only [zp,za,z0,zs]);apply tp 4 32 rfl (by kernel_rfl) (fun _ _ _ h=>h) (by rfl)
  ·intro wq _;go_simp;(try with_reducible rfl)
  (try simp only [zp,za,z0,zs]);apply tp 5 33 rfl (by kernel_rfl) (fun _ _ _ h=>h) (by rfl)
  ·intro wq _;go_simp;(try with_reducible rfl)
  (try simp only [zp,za,z0,zs]);apply tp 6 34 rfl (by kernel_rfl) (fun _ _ _ h=>h) (by rfl)
  ·intro wq _;go_simp;(try with_reducible rfl)
  (try simp only [zp,za,z0,zs]);apply tp 7 35 rfl (by kernel_rfl) (fun _ _ _ h=>h) (by rfl)
  ·intro wq _;go_simp;(try with_reducible rfl)
  (try simp only [zp,za,z0,zs]);apply tt 8 36 rfl (by kernel_rfl) (fun _ _ _ h=>h) (by rfl) (by assumption)
  ·intro wq bR;(try dsimp only at bR);go_simp;(try with_reducible rfl)
  (try simp only [zp,za,z0,zs]);apply tp 9 37 rfl (by kernel_rfl) (fun _ _ _ h=>h) (by rfl)
  ·intro wq _;go_simp;(try with_reducible rfl)
  (try simp only [zp,za,z0,zs]);apply tt 10 38 rfl (by kernel_rfl) (fun _ _ _ h=>h) (by rfl) (by assumption)
  ·intro wq bR;(try dsimp only at bR);go_simp;(try with_reducible rfl)
  (try simp only [zp,za,z0,zs]);refine aD (i:=11) (o:=⟨some 39,_,_,_,_,_⟩) (by kernel_rfl) rfl (by kernel_rfl) (fun K hK=>?_);go_simp;go_at_call 123;refine(yG.out _).mono ?_;rintro e w6 Dv;unfold oX at Dv;rw [HT.out]at Dv;obtain⟨rfl,fH⟩:=Dv;(try dsimp only);refine hK.out _ _ ?_;clear hK K;(try simp only [zp,za,z0,zs]);apply tp 12 27 rfl (by kernel_rfl) (fun _ _ _ h=>h) (by rfl)
  ·intro wq _;go_simp;(try with_reducible rfl)
  (try simp only [zp,za,z0,zs]);apply tp 13 40 rfl (by kernel_rfl) (fun _ _ _ h=>h) (by rfl)
  ·intro wq _;go_simp;(try with_reducible rfl)
  (try simp only [zp,za,z0,zs]);apply tp 14 41 rfl (by kernel_rfl) (fun _ _ _ h=>h) (by rfl)
  ·intro wq _;go_simp;(try with_reducible rfl)
  (try simp only [zp,za,z0,zs]);apply tp 15 4 rfl (by kernel_rfl) (fun _ _ _ h=>h) (by rfl)
  ·intro wq _;go_simp;(try with_reducible rfl)
  (try simp only [zp,za,z0,zs]);apply tp 16 5 rfl (by kernel_rfl) (fun _ _ _ h=>h) (by rfl)
  ·intro wq _;go_simp;(try with_reducible rfl)
  (try simp only [zp,za,z0,zs]);refine aN (by kernel_rfl) ?_ _;generalize (if c=a then some ({ block:=b,off:=off }:Addr)else some { block:=b,off:=off+a })=Z;have iS:=Lib.hid (bW.out.trans (bM.below C (RI.out.trans (Below.mono fH (Nat.le_refl _)))));have HF:=Lib.hid (fun(W:World)=>b8 7 a W);clear fH;go_simp;go_wp2_with fail;refine(HF.out _).mono ?_;rintro e w7 ⟨rfl,rfl⟩;go_wp2_with fail;rw [mq.out,HA.out];exact⟨rfl,rfl,iS.out⟩
 | some s=>
  have HT:=Lib.hid (HCT.out.trans Ga);have Sd:=Lib.hid (show gT (aO L (i+2) r)=some s by rw [HA.out];exact Ga);clear Ga;go_upto_region 5 with fail;refine aB (S:=(fun w'=>w'.cell? ⟨C,0,none⟩=some (.slice (some ⟨b,off,none⟩) n c)∧w'.cell? ⟨C,1,none⟩=some (.int .i64 r)∧(convert 29 9 (.slice (if c=a then some ⟨b,off,none⟩else some ⟨b,off+a,none⟩) (r - a) (c - a))).run Tryz.prog w'=.ok (.string T) w')) [3,8,10] (by kernel_rfl) ⟨d0,d1,sZ⟩ (fun bt=>?_);apply tp 0 28 rfl (by kernel_rfl) (fun _ _ _ h=>h) (by rfl)
  ·intro wq _;go_simp;(try with_reducible rfl)
  (try simp only [zp,za,z0,zs]);apply tp 1 29 rfl (by kernel_rfl) (fun _ _ _ h=>h) (by rfl)
  ·intro wq _;go_simp;(try with_reducible rfl)
  (try simp only [zp,za,z0,zs]);apply tp 2 30 rfl (by kernel_rfl) (fun _ _ _ h=>h) (by rfl)
  ·intro wq _;go_simp;(try with_reducible rfl)
  (try simp only [zp,za,z0,zs]);apply tt 3 31 rfl (by kernel_rfl) (fun _ _ _ h=>h) (by rfl) (by assumption)
  ·intro wq bR;(try dsimp only at bR);go_simp;(try with_reducible rfl)
  (try simp only [zp,za,z0,zs]);apply tp 4 32 rfl (by kernel_rfl) (fun _ _ _ h=>h) (by rfl)
  ·intro wq _;go_simp;(try with_reducible rfl)
  (try simp only [zp,za,z0,zs]);apply tp 5 33 rfl (by kernel_rfl) (fun _ _ _ h=>h) (by rfl)
  ·intro wq _;go_simp;(try with_reducible rfl)
  (try simp only [zp,za,z0,zs]);apply tp 6 34 rfl (by kernel_rfl) (fun _ _ _ h=>h) (by rfl)
  ·intro wq _;go_simp;(try with_reducible rfl)
  (try simp only [zp,za,z0,zs]);apply tp 7 35 rfl (by kernel_rfl) (fun _ _ _ h=>h) (by rfl)
  ·intro wq _;go_simp;(try with_reducible rfl)
  (try simp only [zp,za,z0,zs]);apply tt 8 36 rfl (by kernel_rfl) (fun _ _ _ h=>h) (by rfl) (by assumption)
  ·intro wq bR;(try dsimp only at bR);go_simp;(try with_reducible rfl)
  (try simp only [zp,za,z0,zs]);apply tp 9 37 rfl (by kernel_rfl) (fun _ _ _ h=>h) (by rfl)
  ·intro wq _;go_simp;(try with_reducible rfl)
  (try simp only [zp,za,z0,zs]);apply tt 10 38 rfl (by kernel_rfl) (fun _ _ _ h=>h) (by rfl) (by assumption)
  ·intro wq bR;(try dsimp only at bR);go_simp;(try with_reducible rfl)
  (try simp only [zp,za,z0,zs]);refine aD (i:=11) (o:=⟨some 39,_,_,_,_,_⟩) (by kernel_rfl) rfl (by kernel_rfl) (fun K hK=>?_);go_simp;go_at_call 123;refine(yG.out _).mono ?_;rintro e w6 Dv;unfold oX at Dv;rw [HT.out]at Dv;obtain⟨⟨A6,n6,c6,rfl,PJ,CU⟩,fH⟩:=Dv;(try dsimp only);refine hK.out _ _ ?_;clear hK K;(try simp only [zp,za,z0,zs]);apply tp 12 27 rfl (by kernel_rfl) (fun _ _ _ h=>h) (by rfl)
  ·intro wq _;go_simp;(try with_reducible rfl)
  (try simp only [zp,za,z0,zs]);apply tp 13 40 rfl (by kernel_rfl) (fun _ _ _ h=>h) (by rfl)
  ·intro wq _;go_simp;(try with_reducible rfl)
  (try simp only [zp,za,z0,zs]);apply tp 14 41 rfl (by kernel_rfl) (fun _ _ _ h=>h) (by rfl)
  ·intro wq _;go_simp;(try with_reducible rfl)
  (try simp only [zp,za,z0,zs]);apply tp 15 4 rfl (by kernel_rfl) (fun _ _ _ h=>h) (by rfl)
  ·intro wq _;go_simp;(try with_reducible rfl)
  (try simp only [zp,za,z0,zs]);apply tp 16 5 rfl (by kernel_rfl) (fun _ _ _ h=>h) (by rfl)
  ·intro wq _;go_simp;(try with_reducible rfl)
  (try simp only [zp,za,z0,zs]);refine aN (by kernel_rfl) ?_ _;generalize (if c=a then some ({ block:=b,off:=off }:Addr)else some { block:=b,off:=off+a })=Z;have FA:=Lib.hid ((rm.out.drewN 1).below fH);have iS:=Lib.hid (bW.out.trans (bM.below C (RI.out.trans (Below.mono fH (Nat.le_refl _)))));have Uh:=Lib.hid (PJ.lift (X':=fun b=>b≠C∧w.heap.size≤b) (fun b h=>⟨fun e=>by have:=rm.out.blk.lt;have h2:w3.heap.size≤b:=h;omega,Nat.le_trans bW.out.1 h⟩));clear fH PJ;have HN:=Lib.hid (fE w6 C _ n c L r 58 FA.out (by decide));go_simp;cases hn:aU L r 58 with
  | error e0=>
   obtain⟨x,p⟩:=e0;rw [hn]at HN;have mq:=Lib.hid (fI.out.symm.trans (KY lU.out Sd.out hn));clear hn;go_wp2_with fail;refine HN.out.mono ?_;rintro e w7 ⟨he,hb⟩;unfold aV at he;subst he;have mW:=Lib.hid (iS.out.trans hb);clear hb;go_wp2_with fail;rw [mq.out];exact⟨rfl,rfl,mW.out⟩
  | ok j2=>
   rw [hn]at HN;have Rf:=Lib.hid hn;clear hn;go_wp2_with fail;refine HN.out.mono ?_;rintro e w7 ⟨rfl,hc,hb⟩;have IV:=Lib.hid hc;have mW:=Lib.hid (iS.out.trans hb);have HR7:=Lib.hid (Uh.out.keep (hb.keeps (X':=fun b=>b≠C∧w.heap.size≤b) (fun b h=>h.1) (fun b h _=>h)));clear hb hc;have IC:=Lib.hid (fE w7 C _ n c L j2 93 IV.out (by decide));cases hn:aU L j2 93 with
   | error e0=>
    obtain⟨x,p⟩:=e0;rw [hn]at IC;have mq:=Lib.hid (fI.out.symm.trans (K5 lU.out Sd.out Rf.out hn));clear hn;go_wp2_with fail;refine IC.out.mono ?_;rintro e w8 ⟨he,hb⟩;unfold aV at he;subst he;have yR:=Lib.hid (mW.out.trans hb);clear hb;go_wp2_with fail;rw [mq.out];exact⟨rfl,rfl,yR.out⟩
   | ok k2=>
    rw [hn]at IC;have mq:=Lib.hid (fI.out.symm.trans (ND lU.out Sd.out Rf.out hn));clear hn;go_wp2_with fail;refine IC.out.mono ?_;rintro e w8 ⟨rfl,hc,hb⟩;have SU:=Lib.hid hc;have yR:=Lib.hid (mW.out.trans hb);have HR8:=Lib.hid (HR7.out.keep (hb.keeps (X':=fun b=>w.heap.size≤b) (fun b h=>h.1) (fun b h _=>h.2)));clear hb hc;go_wp2_with fail;go_ret;rw [mq.out];exact⟨⟨A6,n6,c6,rfl,HR8.out,CU⟩,SU.out,yR.out⟩
theorem ax.apart {w:World} {C G:Nat} {A:Option Addr} {n c:Nat} {L:List Int} {i:Nat} {t:TypeId} {v:Value} (h:ax w C A n c L i) (hG:ak w G t #[v]) (hv:∀ x,v≠.int .i32 x):di w (fun b=>b≠C∧b≠G) 1 A n (runeCells L):=by
 refine⟨h.row.1,fun hn=>?_⟩;obtain⟨b,off,e,hb,hl,hc⟩:=h.row.2 hn;refine⟨b,off,e,⟨hb,fun he=>?_⟩,hl,hc⟩;subst he;have hlen:=h.len;obtain⟨x,hx⟩:∃ x,L[0]? = some x:=⟨_,List.getElem?_eq_getElem (by omega)⟩;have h1:=hc 0 (.int .i32 x) (by rw [bC,hx];rfl);rw [hG.cell]at h1;rcases off with _ | off
 ·simp at h1;exact hv x h1
 simp at h1
theorem ax.set {w:World} {C G:Nat} {A:Option Addr} {n c:Nat} {L:List Int} {i:Nat} {t:TypeId} {v:Value} (h:ax w C A n c L i) (hG:ak w G t #[v]) (hv:∀ x,v≠.int .i32 x) (hne:C≠G) (u:Value):ax (w.setCell ⟨G,0,none⟩ u) C A n c L i:=by
 have hk:bM w G (w.setCell ⟨G,0,none⟩ u):=bM.set _ _ _ _;exact⟨h.blk.same (hk.2.2.2.2 C h.blk.lt hne),(h.apart hG hv).keep (hk.keeps (fun b h=>h.2) (fun b h _=>h.1)),h.size,h.le,h.cap⟩
structure ff (w:World) (C P G:Nat) (A:Option Addr) (n c:Nat) (L:List Int) (j:Nat) (s:af) (wr:World):Prop where
  cur:ax wr C A n c L j
  box:ak wr P 120 #[.pointer (some ⟨C,0,none⟩)]
  set:∃ B m d,ak wr G 44 #[.slice B m d]∧di wr (fun b=>b≠C∧b≠P∧b≠G∧w.heap.size≤b) 2 B m (aj s)∧m≤d
  right:aJ s
  but:bM w C wr
  lo:C<w.heap.size∧w.heap.size≤P∧w.heap.size≤G∧P≠G
section
variable {w wr w' : World} {C P G : Nat} {A : Option Addr} {n c : Nat} {L : List Int} {j : Nat} {s : af}
theorem ff.jc (h:ff w C P G A n c L j s wr) (hb:bM wr C w') {k:Nat} (hc:ax w' C A n c L k):ff w C P G A n c L k s w':=by
 obtain⟨B,m,d,h1,h2,h3⟩:=h.set;obtain⟨l1,l2,l3,l4⟩:=h.lo;exact⟨hc,(hb.2.2.2.2 P h.box.lt (by omega)).trans h.box,⟨B,m,d,(hb.2.2.2.2 G h1.lt (by omega)).trans h1,h2.keep (hb.keeps (fun b h=>h.1) (fun b h _=>h)),h3⟩,h.right,h.but.trans hb,h.lo⟩
theorem ff.below (h:ff w C P G A n c L j s wr) (hb:Below wr.heap.size wr w'):ff w C P G A n c L j s w':=h.jc (bM.below C hb) (h.cur.below hb)
theorem ff.drew (h:ff w C P G A n c L j s wr):ff w C P G A n c L j s wr.drew:=h.below ((Below.refl _ _).drew)
theorem ff.put (h:ff w C P G A n c L j s wr) {t:af} {B:Option Addr} {m d:Nat} (hr:di wr (fun b=>b≠C∧b≠P∧b≠G∧w.heap.size≤b) 2 B m (aj t)) (hd:m≤d) (ht:aJ t) :
    ff w C P G A n c L j t (wr.setCell ⟨G,0,none⟩ (.slice B m d)):=by
 obtain⟨B0,m0,d0,h1,h2,h3⟩:=h.set;obtain⟨l1,l2,l3,l4⟩:=h.lo;have hk:bM wr G (wr.setCell ⟨G,0,none⟩ (.slice B m d)):=bM.set _ _ _ _;refine⟨h.cur.set h1 (fun x e=>by cases e) (by omega) _,(hk.2.2.2.2 P h.box.lt l4).trans h.box,⟨B,m,d,h1.put 0 _,hr.keep (hk.keeps (fun b h=>h.2.2.1) (fun b h _=>h)),hd⟩,ht,?_,h.lo⟩;exact⟨Nat.le_trans h.but.1 hk.1,hk.2.1.trans h.but.2.1,hk.2.2.1.trans h.but.2.2.1,hk.2.2.2.1.trans h.but.2.2.2.1,fun b hb hne=>(hk.2.2.2.2 b (Nat.lt_of_lt_of_le hb h.but.1) (by omega)).trans (h.but.2.2.2.2 b hb hne)⟩
end
theorem ff.arg {w wr:World} {C P G:Nat} {A:Option Addr} {n c:Nat} {L:List Int} {j:Nat} {s:af} (h:ff w C P G A n c L j s wr) {B:Option Addr} {m d:Nat} (hb:ak wr G 44 #[.slice B m d]):b7 wr B m d s:=by
 obtain⟨B0,m0,d0,h1,h2,h3⟩:=h.set;have e : #[Value.slice B m d] = #[.slice B0 m0 d0]:=by
  unfold ak at hb h1;rw [hb]at h1;injection h1 with h1;injection h1
 have e2:Value.slice B m d=.slice B0 m0 d0:=(by simpa using e);cases e2;exact⟨h.right,h2.of,h3⟩
theorem ff.part {w wx w1:World} {C P G:Nat} {A:Option Addr} {n c:Nat} {L:List Int} {j j2:Nat} {s t:af} {e:Ending} (h:ff w C P G A n c L j s wx) (ht:aJ t) (hp:eC wx C A n c L (.ok (t,j2)) e w1) :
    ∃ B m d,e=.returned (.slice B m d)∧ff w C P G A n c L j2 s w1∧b7 w1 B m d t∧bM wx C w1:=by
 obtain⟨⟨B,m,d,rfl,hr,hd⟩,hc,hb⟩:=hp;exact⟨B,m,d,rfl,h.jc hb hc,⟨ht,hr.of,hd⟩,hb⟩
theorem ff.mP {w wx w1:World} {C P G:Nat} {A:Option Addr} {n c:Nat} {L:List Int} {j:Nat} {s:af} {cs:Array Value} {t:TypeId} (h:ff w C P G A n c L j s wx) (hb:bM wx C w1) (hG:ak wx G t cs):ak w1 G t cs :=
  (hb.2.2.2.2 G hG.lt (by have:=h.lo;omega)).trans hG
theorem ff.fo {w wx:World} {C P G:Nat} {A:Option Addr} {n c:Nat} {L:List Int} {j:Nat} {s:af} (h:ff w C P G A n c L j s wx):wx.cell? ⟨P,0,none⟩=some (.pointer (some ⟨C,0,none⟩)):=h.box.cell 0
theorem ff.op {w w1 w2:World} {C P G:Nat} {A:Option Addr} {n c:Nat} {L:List Int} {j:Nat} {s:af} {r:af × Int} {e:Ending} (h:ff w C P G A n c L j s w1) (hp:bY w1 r e w2) :
    ∃ B m d,e=.returned (.tuple #[.slice B m d,.int .i64 r.2])∧ff w C P G A n c L j s w2∧di w2 (fun b=>b≠C∧b≠P∧b≠G∧w.heap.size≤b) 2 B m (aj r.1)∧m≤d∧Below w1.heap.size w1 w2:=by
 obtain⟨B,m,d,rfl,h1,_,h2,h3⟩:=hp;refine⟨B,m,d,rfl,h.below h3,h1.lift (fun b hb=>?_),h2,h3⟩;obtain⟨B0,m0,d0,g1,_⟩:=h.set;have l1:=h.cur.blk.lt;have l2:=h.box.lt;have l3:=g1.lt;have l4:=h.but.1;exact⟨by omega,by omega,by omega,by omega⟩
theorem oM (B:Option Addr) (m d P G:Nat) (v:Value) (w:World) (hG:ak w G 44 #[v]) :
    Calls Tryz.prog 102 (#[.slice B m d,.int .i64 0] ++ #[.pointer (some ⟨P,0,none⟩),.pointer (some ⟨G,0,none⟩)]) w fun e w'=>e=.returned (.tuple #[])∧w'=w.setCell ⟨G,0,none⟩ (.slice B m d):=by
 have c0:=hG.cell 0;have f0:=hG.frozen 0;clear hG;go_enter Tryz.func102,Tryz.ntmps102;go_wp2_with fail;go_end0;exact⟨rfl,rfl⟩
theorem mN (B:Option Addr) (m d C P G:Nat) (A:Option Addr) (n c:Nat) (L:List Int) (j:Nat) (x:Int) (w:World) (hx:x≠0) (hP:ak w P 120 #[.pointer (some ⟨C,0,none⟩)]) (hC:ax w C A n c L j) :
    Calls Tryz.prog 102 (#[.slice B m d,.int .i64 x] ++ #[.pointer (some ⟨P,0,none⟩),.pointer (some ⟨G,0,none⟩)]) w fun e w'=>e=aV x j∧w'=w:=by
 have c0:=hP.cell 0;have d0:=hC.blk.cell 1;have hx2:(x != 0)=true:=(by simp;exact hx);have HF:=Lib.hid (fun(W:World)=>b8 x j W);clear hP hC hx;go_enter Tryz.func102,Tryz.ntmps102;go_wp2_with fail;refine(HF.out _).mono ?_;rintro e w3 ⟨rfl,rfl⟩;go_wp2_with fail;exact⟨rfl,rfl,rfl⟩
end Go.Proofs.YtapechjebkjidaaGreatDoor
