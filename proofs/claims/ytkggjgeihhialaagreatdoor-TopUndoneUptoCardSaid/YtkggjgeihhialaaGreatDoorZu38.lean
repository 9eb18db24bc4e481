/- RdQuoted + RdFr + CurClass + SetFr -/
import Derived.Test.YtkggjgeihhialaaGreatDoorZu37
import Derived.Test.YtkggjgeihhialaaGreatDoorZu13
import Derived.Test.YtkggjgeihhialaaGreatDoorZu21
set_option maxHeartbeats 6400000
set_option maxRecDepth 100000
namespace Go.Proofs.YtkggjgeihhialaaGreatDoor
open Go.RowKit
theorem zA:(Tryz.prog.info? 172).map (fun i=>(i.zero,i.size,i.bytes))=some (some (.agg #[.int .i64 0,.int .i32 0,.slice none 0 0,.string ⟨#[]⟩]),4,56):=by kernel_rfl
def gH (l:List Int):List Value:=l.flatMap fun x=>[.int .i64 1,.int .i32 x,.slice none 0 0,.string ⟨#[]⟩]
theorem Cm (l:List Int) (x:Int):gH (l++[x])=gH l++[.int .i64 1,.int .i32 x,.slice none 0 0,.string ⟨#[]⟩]:=by simp [gH]
theorem QM (x:Int):∀ u ∈ [Value.int .i64 1,.int .i32 x,.slice none 0 0,.string ⟨#[]⟩],u.oneCell'=true:=by
 intro u hu;simp at hu;rcases hu with rfl | rfl | rfl | rfl <;> rfl
theorem C3 {L:List Int} {a j:Nat} (ha:a≤j) (hj:j<L.length):aN L a (j+1)=aN L a j++[pk L j]:=by
 unfold aN;rw [show j+1 - a=(j - a)+1 by omega,List.take_add_one,List.getElem?_drop,show a+(j - a)=j by omega,List.getElem?_eq_getElem hj,GH (List.getElem?_eq_getElem hj)];rfl
theorem Cl (L:List Int) (a:Nat):aN L a a = []:=by unfold aN;rw [Nat.sub_self];rfl
theorem eX {w w1 w2:World} {C:Nat} (h:bN w C w1) (hb:Below w.heap.size w1 w2):bN w C w2 :=
  ⟨Nat.le_trans h.1 hb.size,hb.os.trans h.2.1,hb.tape.trans h.2.2.1,hb.output.trans h.2.2.2.1,fun k hk hne=>(hb.block k hk).trans (h.2.2.2.2 k hk hne)⟩
structure ie (lo:Nat) (w:World) (C:Nat) (A:Option Addr) (n c:Nat) (L:List Int) (i:Nat):Prop where
  cur:ax w C A n c L i
  row:cE w (fun b=>b≠C∧b<lo) 1 A n (runeCells L)
  lt:C<lo
theorem ie.start {w:World} {C:Nat} {A:Option Addr} {n c:Nat} {L:List Int} {i:Nat} (h:ax w C A n c L i):ie w.heap.size w C A n c L i :=
  ⟨h,h.row.keep (fun _ hX hl=>⟨rfl,⟨hX,hl⟩,hl⟩),h.blk.lt⟩
theorem ie.but {lo:Nat} {w w':World} {C:Nat} {A:Option Addr} {n c:Nat} {L:List Int} {i j:Nat} (h:ie lo w C A n c L i) (hc:ax w' C A n c L j) (hb:bN w C w'):ie lo w' C A n c L j :=
  ⟨hc,h.row.keep (hb.keeps (fun _ h=>h.1) (fun _ h _=>h)),h.lt⟩
theorem ie.below {lo:Nat} {w w':World} {C:Nat} {A:Option Addr} {n c:Nat} {L:List Int} {i:Nat} (h:ie lo w C A n c L i) (hb:Below lo w w'):ie lo w' C A n c L i:=by
 have hr:cE w' (fun b=>b≠C∧b<lo) 1 A n (runeCells L):=h.row.keep (fun b hX hl=>⟨hb.block b hX.2,hX,Nat.lt_of_lt_of_le hl hb.size⟩);exact⟨⟨h.cur.blk.same (hb.block C h.lt),hr.lift (fun _ h=>h.1),h.cur.size,h.cur.le,h.cur.cap⟩,hr,h.lt⟩
theorem ie.drewN {lo:Nat} {w:World} {C:Nat} {A:Option Addr} {n c:Nat} {L:List Int} {i:Nat} (h:ie lo w C A n c L i) (k:Nat):ie lo (w.drewN k) C A n c L i:=h.but (h.cur.drewN k) (bN.drewN w C k)
def Md (w:World) (C:Nat) (A:Option Addr) (n c:Nat) (L:List Int) (i:Nat) (e:Ending) (w':World):Prop :=
  (pk L (aB kV L (i+1))=39∧(∃ B m d,e=.returned (.slice B m d)∧cE w' (fun b=>w.heap.size≤b) 4 B m (gH (aN L (i+1) (aB kV L (i+1))))∧m≤d∧m≤n)∧ax w' C A n c L (aB kV L (i+1)+1)∧bN w C w') ∨
    (pk L (aB kV L (i+1))≠39∧e=aZ 2 (aB kV L (i+1))∧bN w C w')
theorem H7 (w:World) (C:Nat) (A:Option Addr) (n c:Nat) (L:List Int) (i:Nat) (h:ax w C A n c L i) (hi:i<n) (hn:n≤100000) :
    Calls Tryz.prog 118 #[.pointer (some ⟨C,0,none⟩)] w (Md w C A n c L i):=by
 obtain⟨i0,Kl,z0,z1,z2⟩:=info_parts zA;have hl:=h.len;have hw1:IntKind.i64.wrap ((i:Int)+1)=(i:Int)+1:=wrap_small _ (by omega) (by omega);obtain⟨d1,d2,d3,d4⟩:=h.step hi;have Z7:=qqh ((ie.start h).but d3 d4);have dY:=qqh d4;have gS:=qqh (fun(W:World) (m:Nat) (h:ax W C A n c L m)=>mc W C A n c L m h);obtain⟨r,hr⟩:∃ r,aB kV L (i+1)=r:=⟨_,rfl⟩;have HR:=qqh hr;unfold Md;rw [hr];clear h d3 d4 hr;go_enter Tryz.func118,Tryz.ntmps118;go_wp2_with fail;go_loopw [3] (fun out wr=>∃ j:Nat,i+1≤j∧j≤n∧r=aB kV L j∧wr.ownsRow w.heap.size 172 4 out (j - (i+1)) (gH (aN L (i+1) j))∧ie w.heap.size wr C A n c L j∧bN w C wr) (fun _ wr=>n - (match wr.cell? ⟨C,1,none⟩with | some (.int _ j)=>j.toNat | _=>0));(case atStart=>exact⟨i+1,Nat.le_refl _,hi,HR.out.symm,by rw [Nat.sub_self,Cl];exact World.ownsRow_nil _ _ _ _,Z7.out,dY.out⟩);obtain⟨j,hij,hjn,hrun,hown,tc,Bz⟩:=hrel;have HJ:=qqh tc;have HB:=qqh Bz;have HO:=qqh hown;have S9:=qqh hrun;have nS:=qqh (tc.cur.blk.cell 1);obtain⟨Av,cv,rfl,qu⟩:=aI hown;have hwj:IntKind.i64.wrap ((j:Int)+1)=(j:Int)+1:=wrap_small _ (by omega) (by omega);obtain⟨x,hx⟩:∃ x,pk L j=x:=⟨_,rfl⟩;have HX:=qqh hx;have HP:=qqh (fun(W:World) (h:ax W C A n c L j)=>show Calls Tryz.prog 41 #[.pointer (some ⟨C,0,none⟩)] W fun e w'=>e=.returned (.int .i32 x)∧∃ m,w'=W.drewN m by have:=gS.out W j h;rwa [hx]at this);clear tc Bz hown hrun hx;by_cases yy:x=39
 ·have hj:r=j:=S9.out.trans (cV (fun _=>by rw [HX.out,yy];rfl));have hlt:j<n:=(by rw [← hl];exact bE (by rw [HX.out];omega));subst yy;go_wp2_with fail;refine(HP.out _ HJ.out.cur).mono ?_;rintro e w3 ⟨rfl,m3,DD⟩;have lN:=qqh (HJ.out.drewN m3);have bG:=qqh (HB.out.trans (bN.drewN _ C m3));have rz:=qqh (show(World.drewN _ m3).ownsRow w.heap.size 172 4 _ _ _ from HO.out);rw [← DD]at lN bG rz;clear DD;have kT:=qqh (cE.cP (X:=fun b=>w.heap.size≤b) rz.out (fun b hb=>(aY rz.out hb).1));obtain⟨s1,s2,s3,s4⟩:=lN.out.cur.step hlt;have B8:=qqh s3;have dI:=qqh (bG.out.trans s4);have hCl:=lN.out.lt;have Zh:=qqh (kT.out.keep (s4.keeps (X':=fun b=>w.heap.size≤b) (fun b h=>by omega) (fun b h _=>h)));clear s3 s4;have HJR:=qqh hj;clear hj;go_wp2_with fail;go_ret;left;rw [HJR.out];exact⟨HX.out,⟨Av,_,cv,rfl,Zh.out,qu,by omega⟩,B8.out,dI.out⟩
 have af6:(x != 39)=true:=(by simp;exact yy);by_cases hneg:x<0
 ·have hj:r=j:=S9.out.trans (cV (fun _=>by rw [HX.out];unfold kV;rw [decide_eq_false (by omega)];rfl));have HJR:=qqh hj;have uW:=qqh (show pk L j≠39 by rw [HX.out];exact yy);clear hj yy;go_wp2_with fail;refine(HP.out _ HJ.out.cur).mono ?_;rintro e w3 ⟨rfl,m3,DD⟩;have lN:=qqh (HJ.out.drewN m3);have bG:=qqh (HB.out.trans (bN.drewN _ C m3));have rz:=qqh (show(World.drewN _ m3).ownsRow w.heap.size 172 4 _ _ _ from HO.out);rw [← DD]at lN bG rz;clear DD;go_wp2_with fail;refine(HP.out _ lN.out.cur).mono ?_;rintro e w4 ⟨rfl,m4,TT⟩;have EJ:=qqh (lN.out.drewN m4);have dI:=qqh (bG.out.trans (bN.drewN _ C m4));have oU:=qqh (show(World.drewN _ m4).ownsRow w.heap.size 172 4 _ _ _ from rz.out);rw [← TT]at EJ dI oU;clear TT;have k1:=EJ.out.cur.blk.cell 1;go_wp2_with fail;refine(bZ 2 j _).mono ?_;rintro e w5 ⟨rfl,rfl⟩;go_wp2_with fail;rw [HJR.out];exact⟨rfl,.inr ⟨uW.out,rfl,dI.out⟩⟩
 have hge:decide (x<0)=false:=decide_eq_false hneg;have hlt:j<n:=(by rw [← hl];exact bE (by rw [HX.out];omega));have Ke:=qqh (S9.out.trans (dR (p:=kV) (by omega) (by rw [HX.out];unfold kV;simp;omega)));have Ay:=qqh (show gH (aN L (i+1) (j+1))=gH (aN L (i+1) j)++[.int .i64 1,.int .i32 x,.slice none 0 0,.string ⟨#[]⟩] by rw [C3 hij (by omega),Cm,HX.out]);clear yy hneg;go_wp2_with fail;refine(HP.out _ HJ.out.cur).mono ?_;rintro e w3 ⟨rfl,m3,DD⟩;have lN:=qqh (HJ.out.drewN m3);have bG:=qqh (HB.out.trans (bN.drewN _ C m3));have rz:=qqh (show(World.drewN _ m3).ownsRow w.heap.size 172 4 _ _ _ from HO.out);rw [← DD]at lN bG rz;clear DD;go_wp2_with fail;refine(HP.out _ lN.out.cur).mono ?_;rintro e w4 ⟨rfl,m4,TT⟩;have EJ:=qqh (lN.out.drewN m4);have dI:=qqh (bG.out.trans (bN.drewN _ C m4));have oU:=qqh (show(World.drewN _ m4).ownsRow w.heap.size 172 4 _ _ _ from rz.out);rw [← TT]at EJ dI oU;clear TT;have CI:=qqh (fun(W:World)=>Rd.new W 172 4 1 [.int .i64 1,.int .i32 x,.slice none 0 0,.string ⟨#[]⟩] rfl);go_wp2_with fail;refine(HP.out _ EJ.out.cur).mono ?_;rintro e w5 ⟨rfl,m5,MJ⟩;have G8:=qqh (EJ.out.drewN m5);have dn:=qqh (dI.out.trans (bN.drewN _ C m5));have xQ:=qqh (show(World.drewN _ m5).ownsRow w.heap.size 172 4 _ _ _ from oU.out);rw [← MJ]at G8 dn xQ;clear MJ;have zZ:=qqh (World.ownsRow.alloc xQ.out (.cells #[.int .i64 1,.int .i32 x,.slice none 0 0,.string ⟨#[]⟩] 172));have dV:=(Below.refl w5.heap.size w5).alloc (Nat.le_refl _) (.cells #[.int .i64 1,.int .i32 x,.slice none 0 0,.string ⟨#[]⟩] 172);have MJ:=dn.out.1;have fG:=qqh (bN.below (w:=w5) C dV)
 have iY:=qqh (dn.out.trans fG.out);have AE:=qqh (G8.out.below (dV.mono MJ));have hsz:=iY.out.1;clear dV;go_wp2_with (at_builtin;refine ak _ rfl (.tmp 29) (.tmp 35) 99 rfl w.heap.size 172 i0 _ 4 56 Tryz.underlying99 Kl z0 z1 z2 rfl (by decide) _ _ _ rfl zZ.out (w5.heap.size+1) (some ⟨w5.heap.size,0,none⟩) 1 1 [.int .i64 1,.int .i32 x,.slice none 0 0,.string ⟨#[]⟩] rfl (CI.out w5) (QM x) (by simp only [maxLen];omega) (by omega) hsz ?_);intro v' w9 au;have bY:=au.below hsz zZ.out;have Ju:=qqh (AE.out.below bY);have eG:=qqh (eX iY.out bY);have gL:=qqh (show w9.ownsRow w.heap.size 172 4 v' (j+1 - (i+1)) (gH (aN L (i+1) (j+1))) by
  have:=au.own;rw [Ay.out,show j+1 - (i+1)=j - (i+1)+1 by omega];exact this)
 clear au bY;obtain⟨s1,s2,s3,s4⟩:=Ju.out.cur.step hlt;have HJA:=qqh (Ju.out.but s3 s4);have vu:=qqh (eG.out.trans s4);have hCl:=Ju.out.lt;obtain⟨A9,c9,rfl,_⟩:=aI gL.out;have HOA:=qqh (ownsRow_setCell_below gL.out (a:=⟨C,1,none⟩) hCl (.int .i64 ((j:Int)+1)));clear s3 s4;go_wp2_with fail;refine⟨⟨j+1,by omega,hlt,Ke.out,HOA.out,HJA.out,vu.out⟩,?_⟩;have e1:(w9.setCell ⟨C,1,none⟩ (.int .i64 ((j:Int)+1))).cell? ⟨C,1,none⟩=some (.int .i64 ((j+1:Nat):Int)):=HJA.out.cur.blk.cell 1;have e2:wr.cell? ⟨C,1,none⟩=some (.int .i64 (j:Int)):=nS.out;rw [e1,e2];simp only [Int.toNat_natCast];omega
def gR (w:World) (X:Nat→Prop) (a:aG) (cs:List Value):Prop :=
  ∃ A n c,cs = [.int .i64 a.kind,.int .i32 a.rune,.slice A n c,.string a.name]∧cE w X 2 A n (an a.set)∧n≤c∧n≤maxLen
theorem gR.keep {w w':World} {X X':Nat→Prop} (hk:aa w X w' X') (a:aG) (cs:List Value) (h:gR w X a cs):gR w' X' a cs:=by
 obtain⟨A,n,c,e,h1,h2⟩:=h;exact⟨A,n,c,e,h1.keep hk,h2⟩
theorem gR.one {w:World} {X:Nat→Prop} {a:aG} {cs:List Value} (h:gR w X a cs):∀ u∈cs,u.oneCell'=true:=by
 obtain⟨A,n,c,rfl,_⟩:=h;intro u hu;simp at hu;rcases hu with rfl | rfl | rfl | rfl <;> rfl
def vN (lo C:Nat) (v:Value) (b:Nat):Prop:=lo≤b∧b≠C∧v.ownBlock≠some b
def gy (lo C:Nat) (w:World) (v:Value) (l:List aG):Prop:=cR (gR w (vN lo C v)) 172 4 w lo v l
theorem GY {w w':World} {C base sz n:Nat} {e:TypeId} {v:Value} {xs:List Value} (h:w.ownsRow base e sz v n xs) (hb:bN w C w') (hC:C<base):w'.ownsRow base e sz v n xs:=by
 refine⟨h.1,?_⟩;rcases h.2 with h2 | ⟨g,cap,cur,hv,hg,hh,r⟩;exact .inl h2;exact .inr ⟨g,cap,cur,hv,hg,(hb.2.2.2.2 g (Array.getElem?_eq_some_iff.1 hh).1 (by omega)).trans hh,r⟩
theorem gy.but {lo C:Nat} {w w':World} {v:Value} {l:List aG} (h:gy lo C w v l) (hb:bN w C w') (hC:C<lo):gy lo C w' v l :=
  cR.kept (fun _ _ ho=>GY ho hb hC) (gR.keep (hb.keeps (fun _ h=>h.2.1) (fun _ h _=>h))) h
theorem AL {lo C m sz:Nat} {e:TypeId} {v v':Value} {ys:List Value} {w w2:World} (ha:aX lo e sz v w m ys v' w2):aa w (vN lo C v) w2 (vN lo C v'):=by
 refine aa.app ha (fun b hb=>hb.2.2) (fun b hb hl=>⟨hb.1,hb.2.1,?_⟩);rcases ha.2.2 with e | e
 ·rw [e];exact hb.2.2
 rw [e];intro h;injection h with h;omega
theorem gy.push {lo C:Nat} {w:World} {v:Value} {l:List aG} (h:gy lo C w v l) (a:aG) {cs:List Value} (ha:gR w (vN lo C v) a cs) (hcs:cs.length=4) :
    ∃ ys,w.ownsRow lo 172 4 v l.length ys∧∀ v' w',aX lo 172 4 v w (l.length+1) (ys++cs) v' w'→gy lo C w' v' (l++[a]):=by
 obtain⟨css,h1,h2,h3,h4⟩:=h;refine⟨css.flatten,h4,fun v' w' au=>?_⟩;have hk:aa w (vN lo C v) w' (vN lo C v'):=AL au;exact cR.push h1 h2 h3 (gR.keep hk) (ha.keep hk) hcs au
def qc (x:Int):List Value:=[.int .i64 1,.int .i32 x,.slice none 0 0,.string ⟨#[]⟩]
theorem OM (rs:List Int):(rs.map qc).flatten=gH rs:=by unfold gH;rw [List.flatMap_def];rfl
theorem Bv (w:World) (X:Nat→Prop) (x:Int):gR w X (lW x) (qc x):=⟨none,0,0,rfl,⟨rfl,fun h=>absurd h (by omega)⟩,Nat.le_refl _,Nat.zero_le _⟩
theorem gy.WS {lo C:Nat} {w:World} {v:Value} {l:List aG} (h:gy lo C w v l) (rs:List Int) :
    ∃ ys,w.ownsRow lo 172 4 v l.length ys∧∀ v' w',aX lo 172 4 v w (l.length+rs.length) (ys++gH rs) v' w'→gy lo C w' v' (l++rs.map lW):=by
 obtain⟨css,h1,h2,h3,h4⟩:=h;refine⟨css.flatten,h4,fun v' w' au=>?_⟩;have hk:aa w (vN lo C v) w' (vN lo C v'):=AL au;refine⟨css++rs.map qc,by simp [h1],?_,?_,?_⟩
 ·intro i a cs ha hc;rcases Nat.lt_or_ge i l.length with hi | hi
  ·rw [List.getElem?_append_left hi]at ha;rw [List.getElem?_append_left (by omega)]at hc;exact gR.keep hk a cs (h2 i a cs ha hc)
  rw [List.getElem?_append_right hi,List.getElem?_map]at ha;rw [List.getElem?_append_right (by omega),h1,List.getElem?_map]at hc;cases hx:rs[i - l.length]? with
  | none=>rw [hx]at ha;cases ha
  | some x=>
   rw [hx]at ha hc;obtain rfl:=Option.some.inj ha;obtain rfl:=Option.some.inj hc;exact Bv w' _ x
 ·intro cs hc;rcases List.mem_append.1 hc with hc | hc;exact h3 cs hc;obtain⟨x,_,rfl⟩:=List.mem_map.1 hc;rfl
 have:=au.own;rw [List.flatten_append,OM,List.length_append,List.length_map];exact this
theorem gy.form {lo C:Nat} {w:World} {v:Value} {l:List aG} (h:gy lo C w v l):∃ A c,v=.slice A l.length c∧l.length≤c:=cR.form h
theorem gy.nil (lo C:Nat) (w:World):gy lo C w (.slice none 0 0) []:=cR.nil _ _
theorem gy.below {lo C:Nat} {w w':World} {v:Value} {l:List aG} (h:gy lo C w v l) (hb:Below w.heap.size w w'):gy lo C w' v l :=
  cR.kept (fun _ _ ho=>cC ho hb) (gR.keep (aa.any hb)) h
theorem gy.apart {lo C:Nat} {w:World} {v:Value} {l:List aG} (h:gy lo C w v l) {b:Nat} (hb:w.heap.size≤b):v.ownBlock≠some b:=by
 obtain⟨css,h1,h2,h3,h4⟩:=h;intro e;have:=(aY h4 e).2;omega
def UW (p:Int→Bool) (w:World) (C:Nat) (A:Option Addr) (n c:Nat) (L:List Int) (a r:Nat) (wr:World):Prop :=
  ∃ j,a≤j∧j≤n∧r=aB p L j∧ax wr C A n c L j∧bN w C wr
theorem Iv {L:List Int} {i r:Nat} (hr:aB dh L (i+2)=r) (h:gz (aN L (i+2) r)=none):eJ L i=.error (7,i+2):=by subst hr;unfold eJ;rw [h]
theorem JW {L:List Int} {i r:Nat} {s:af} {e:Int × Nat} (hr:aB dh L (i+2)=r) (h:gz (aN L (i+2) r)=some s) (h2:aT L r 58=.error e):eJ L i=.error e:=by subst hr;unfold eJ;rw [h];simp only;rw [h2]
theorem Ht {L:List Int} {i r j:Nat} {s:af} {e:Int × Nat} (hr:aB dh L (i+2)=r) (h:gz (aN L (i+2) r)=some s) (h2:aT L r 58=.ok j) (h3:aT L j 93=.error e):eJ L i=.error e:=by subst hr;unfold eJ;rw [h];simp only;rw [h2];simp only;rw [h3]
theorem Ks {L:List Int} {i r j k:Nat} {s:af} (hr:aB dh L (i+2)=r) (h:gz (aN L (i+2) r)=some s) (h2:aT L r 58=.ok j) (h3:aT L j 93=.ok k):eJ L i=.ok (s,k):=by subst hr;unfold eJ;rw [h];simp only;rw [h2];simp only;rw [h3]
theorem sJ (l:List Int) (h:l.length≤4611686018427387904) (h2:l.length≤100000):(runesBytes l).size≤maxLen:=by
 have:=runesBytes_size_le l;simp only [maxLen];omega
theorem JL (w:World) (C:Nat) (A:Option Addr) (n c:Nat) (L:List Int) (i:Nat) (h:ax w C A n c L i) (hL:fU L) (hi:i+2≤n) (hn:n≤100000) :
    Calls Tryz.prog 96 #[.pointer (some ⟨C,0,none⟩)] w (eB w C A n c L (eJ L i)):=by
 have hs:=h.size;have hlen:=h.len;obtain⟨b,off,rfl,_,_⟩:=h.at (by omega);have HL:=qqh hL;have c0:=h.blk.cell 0;have c1:=h.blk.cell 1;have f1:=h.blk.frozen 1;have hw1:IntKind.i64.wrap ((i:Int)+2)=(i:Int)+2:=wrap_small _ (by omega) (by omega);have hm:=h.move (j:=i+2) hi;have SV:=bN.set w C 1 (.int .i64 ((i+2:Nat):Int));rw [show(((i+2:Nat)):Int)=(i:Int)+2 by omega]at hm SV;have HM:=qqh hm;have bJ:=qqh SV;obtain⟨R,hR⟩:∃ R,eJ L i=R:=⟨_,rfl⟩;rw [hR];have fC:=qqh hR;clear hL hm h SV hR;obtain⟨r,hr⟩:∃ r,aB dh L (i+2)=r:=⟨_,rfl⟩;have i4:=qqh hr;have hi2:((i+2:Nat):Int)=(i:Int)+2:=(by omega);obtain⟨a,ha⟩:∃ a,i+2=a:=⟨_,rfl⟩;have haI:(i:Int)+2=(a:Int):=(by omega);have HA:=qqh ha;rw [haI]at HM bJ hw1;rw [ha]at HM;clear hr hi2;go_enter Tryz.func96,Tryz.ntmps96;go_wp2_with fail;go_loopw [17] (fun _ wr=>UW dh w C (some ⟨b,off,none⟩) n c L a r wr) (fun _ wr=>n - (match wr.cell? ⟨C,1,none⟩with | some (.int _ j)=>j.toNat | _=>0));(case atStart=>exact⟨a,Nat.le_refl _,HM.out.le,by rw [← i4.out,HA.out],HM.out,bJ.out⟩);obtain⟨j,haj,hj,hrun,tc,Bz⟩:=hrel;have HJ:=qqh tc;have HB:=qqh Bz;have HR:=qqh hrun;have gS:=qqh (fun(W:World) (h:ax W C (some ⟨b,off,none⟩) n c L j)=>cT W C (some ⟨b,off,none⟩) n c L j h);have nS:=qqh (tc.blk.cell 1);have sV:=qqh (fun(W:World)=>og (pk L j) W (HL.out.pk j));clear tc Bz hrun;by_cases Ef:dh (pk L j)=true
 ·rw [Ef]at sV;have hlt:j<L.length:=bE (fun e=>by rw [e]at Ef;exact absurd Ef (by decide));have xU:IntKind.i64.wrap ((j:Int)+1)=(j:Int)+1:=wrap_small _ (by omega) (by omega);go_wp2_with fail;refine(gS.out _ HJ.out).mono ?_;rintro e w2 ⟨rfl,hc2,aU⟩;have mT:=qqh hc2;have bD:=qqh (HB.out.trans aU);clear hc2 aU;go_wp2_with fail;refine(sV.out _).mono ?_;rintro e w3 ⟨rfl,bL⟩;have oK:=qqh (mT.out.below bL);have bG:=qqh (bD.out.trans (bN.below C bL));clear bL;obtain⟨d1,d2,d3,d4⟩:=oK.out.step (by omega);have uh:=qqh d3;have dI:=qqh (bG.out.trans d4);clear d3 d4;go_wp2_with fail;refine⟨⟨j+1,by omega,by omega,HR.out.trans (dR hlt Ef),uh.out,dI.out⟩,?_⟩;have e1:(w3.setCell ⟨C,1,none⟩ (.int .i64 ((j:Int)+1))).cell? ⟨C,1,none⟩=some (.int .i64 ((j+1:Nat):Int)):=uh.out.blk.cell 1;have e2:wr.cell? ⟨C,1,none⟩=some (.int .i64 (j:Int)):=nS.out;rw [e1,e2];simp only [Int.toNat_natCast];omega
 rw [Bool.not_eq_true]at Ef;rw [Ef]at sV;obtain rfl:r=j:=HR.out.trans (cV (fun _=>Ef));clear HR;go_wp2_with fail;refine(gS.out _ HJ.out).mono ?_;rintro e w2 ⟨rfl,hc2,aU⟩;have mT:=qqh hc2;have bD:=qqh (HB.out.trans aU);clear hc2 aU;go_wp2_with fail;refine(sV.out _).mono ?_;rintro e w3 ⟨rfl,bL⟩;have oK:=qqh (mT.out.below bL);have bG:=qqh (bD.out.trans (bN.below C bL));have NI:=qqh (show Below w3.heap.size w3 w3.drew from(Below.refl _ _).drew);clear bL;have d0:=oK.out.blk.cell 0;have d1:=oK.out.blk.cell 1;have qu:=xp (oK.out.drewN 1) haj hj;have hk1:(a:Int)≤(r:Int):=(by omega);have hk2:(r:Int)≤(c:Int):=(by have:=oK.out.cap;omega);have Qs:(0:Int)≤(a:Int):=(by omega);have hts:(runesBytes (aN L a r)).size≤maxLen:=sJ _ (by unfold aN;rw [List.length_take];omega) (by unfold aN;rw [List.length_take];omega);have T3:=qqh (E4 (aN L a r));generalize runesBytes (aN L a r)=T at *;have uC:=qqh (fun(W:World)=>JA T W hts);clear hts;cases F7:gz (aN L a r)with
 | none=>
  have HT:=qqh (T3.out.trans F7);have kS:=qqh (show R=.error (7,i+2) from fC.out.symm.trans (Iv i4.out (by rw [HA.out];exact F7)));clear F7;go_upto_region 5 with fail;refine ay (S:=(fun w'=>w'.cell? ⟨C,0,none⟩=some (.slice (some ⟨b,off,none⟩) n c)∧w'.cell? ⟨C,1,none⟩=some (.int .i64 r)∧(convert 33 9 (.slice (if c=a then some ⟨b,off,none⟩else some ⟨b,off+a,none⟩) (r - a) (c - a))).run Tryz.prog w'=.ok (.string T) w')) [3,8,10] (by kernel_rfl) ⟨d0,d1,qu⟩ (fun bg=>?_);refine tq 0 28 ?_;(try simp only [zp,za,z0,zs]);refine tq 1 29 ?_;(try simp only [zp,za,z0,zs]);refine tq 2 30 ?_;(try simp only [zp,za,z0,zs]);refine tu 3 31 ?_;(try simp only [zp,za,z0,zs]);refine tq 4 32 ?_;(try simp only [zp,za,z0,zs]);refine tq 5 33 ?_;(try simp only [zp,za,z0,zs]);refine tq 6 34 ?_;(try simp only [zp,za,z0,zs]);refine tq 7 35 ?_;(try simp only [zp,za,z0,zs]);refine tu 8 36 ?_;(try simp only [zp,za,z0,zs]);refine tq 9 37 ?_;(try simp only [zp,za,z0,zs]);refine tu 10 38 ?_;(try simp only [zp,za,z0,zs]);refine aA (i:=11) (o:=⟨some 39,_,_,_,_,_⟩) (by kernel_rfl) rfl (by kernel_rfl) (fun K hK=>?_);go_simp;go_at_call 114;refine(uC.out _).mono ?_;rintro e w6 Ck;unfold nW at Ck;rw [HT.out]at Ck;obtain⟨rfl,dV⟩:=Ck;(try dsimp only);refine hK.out _ _ ?_;clear hK K;(try simp only [zp,za,z0,zs]);refine tq 12 27 ?_;(try simp only [zp,za,z0,zs]);refine tq 13 40 ?_;(try simp only [zp,za,z0,zs]);refine tq 14 41 ?_;(try simp only [zp,za,z0,zs]);refine tq 15 4 ?_;(try simp only [zp,za,z0,zs]);refine tq 16 5 ?_;(try simp only [zp,za,z0,zs]);refine aJ (by kernel_rfl) ?_ _;generalize (if c=a then some ({ block:=b,off:=off }:Addr)else some { block:=b,off:=off+a })=Z;have fG:=qqh (bG.out.trans (bN.below C (NI.out.trans (Below.mono dV (Nat.le_refl _)))))
  have HF:=qqh (fun(W:World)=>bZ 7 a W);clear dV;go_simp;go_wp2_with fail;refine(HF.out _).mono ?_;rintro e w7 ⟨rfl,rfl⟩;go_wp2_with fail;rw [kS.out,HA.out];exact⟨rfl,rfl,fG.out⟩
 | some s=>
  have HT:=qqh (T3.out.trans F7);have S2:=qqh (show gz (aN L (i+2) r)=some s by rw [HA.out];exact F7);clear F7;go_upto_region 5 with fail;refine ay (S:=(fun w'=>w'.cell? ⟨C,0,none⟩=some (.slice (some ⟨b,off,none⟩) n c)∧w'.cell? ⟨C,1,none⟩=some (.int .i64 r)∧(convert 33 9 (.slice (if c=a then some ⟨b,off,none⟩else some ⟨b,off+a,none⟩) (r - a) (c - a))).run Tryz.prog w'=.ok (.string T) w')) [3,8,10] (by kernel_rfl) ⟨d0,d1,qu⟩ (fun bg=>?_);refine tq 0 28 ?_;(try simp only [zp,za,z0,zs]);refine tq 1 29 ?_;(try simp only [zp,za,z0,zs]);refine tq 2 30 ?_;(try simp only [zp,za,z0,zs]);refine tu 3 31 ?_;(try simp only [zp,za,z0,zs]);refine tq 4 32 ?_;(try simp only [zp,za,z0,zs]);refine tq 5 33 ?_;(try simp only [zp,za,z0,zs]);refine tq 6 34 ?_;(try simp only [zp,za,z0,zs]);refine tq 7 35 ?_;(try simp only [zp,za,z0,zs]);refine tu 8 36 ?_;(try simp only [zp,za,z0,zs]);refine tq 9 37 ?_;(try simp only [zp,za,z0,zs]);refine tu 10 38 ?_;(try simp only [zp,za,z0,zs]);refine aA (i:=11) (o:=⟨some 39,_,_,_,_,_⟩) (by kernel_rfl) rfl (by kernel_rfl) (fun K hK=>?_);go_simp;go_at_call 114;refine(uC.out _).mono ?_;rintro e w6 Ck;unfold nW at Ck;rw [HT.out]at Ck;obtain⟨⟨A6,n6,c6,rfl,PB,Cu⟩,dV⟩:=Ck;(try dsimp only);refine hK.out _ _ ?_;clear hK K;(try simp only [zp,za,z0,zs]);refine tq 12 27 ?_;(try simp only [zp,za,z0,zs]);refine tq 13 40 ?_;(try simp only [zp,za,z0,zs]);refine tq 14 41 ?_;(try simp only [zp,za,z0,zs]);refine tq 15 4 ?_;(try simp only [zp,za,z0,zs]);refine tq 16 5 ?_;(try simp only [zp,za,z0,zs]);refine aJ (by kernel_rfl) ?_ _;generalize (if c=a then some ({ block:=b,off:=off }:Addr)else some { block:=b,off:=off+a })=Z;have IB:=qqh ((oK.out.drewN 1).below dV)
  have fG:=qqh (bG.out.trans (bN.below C (NI.out.trans (Below.mono dV (Nat.le_refl _)))));have TJ:=qqh (PB.lift (X':=fun b=>b≠C∧w.heap.size≤b) (fun b h=>⟨fun e=>by have:=oK.out.blk.lt;have h2:w3.heap.size≤b:=h;omega,Nat.le_trans bG.out.1 h⟩));clear dV PB;have HN:=qqh (fk w6 C _ n c L r 58 IB.out (by decide));go_simp;cases hn:aT L r 58 with
  | error e0=>
   obtain⟨x,p⟩:=e0;rw [hn]at HN;have kS:=qqh (fC.out.symm.trans (JW i4.out S2.out hn));clear hn;go_wp2_with fail;refine HN.out.mono ?_;rintro e w7 ⟨he,hb⟩;unfold aZ at he;subst he;have iU:=qqh (fG.out.trans hb);clear hb;go_wp2_with fail;rw [kS.out];exact⟨rfl,rfl,iU.out⟩
  | ok j2=>
   rw [hn]at HN;have QK:=qqh hn;clear hn;go_wp2_with fail;refine HN.out.mono ?_;rintro e w7 ⟨rfl,hc,hb⟩;have Kf:=qqh hc;have iU:=qqh (fG.out.trans hb);have HR7:=qqh (TJ.out.keep (hb.keeps (X':=fun b=>b≠C∧w.heap.size≤b) (fun b h=>h.1) (fun b h _=>h)));clear hb hc;have AT:=qqh (fk w7 C _ n c L j2 93 Kf.out (by decide));cases hn:aT L j2 93 with
   | error e0=>
    obtain⟨x,p⟩:=e0;rw [hn]at AT;have kS:=qqh (fC.out.symm.trans (Ht i4.out S2.out QK.out hn));clear hn;go_wp2_with fail;refine AT.out.mono ?_;rintro e w8 ⟨he,hb⟩;unfold aZ at he;subst he;have rV:=qqh (iU.out.trans hb);clear hb;go_wp2_with fail;rw [kS.out];exact⟨rfl,rfl,rV.out⟩
   | ok k2=>
    rw [hn]at AT;have kS:=qqh (fC.out.symm.trans (Ks i4.out S2.out QK.out hn));clear hn;go_wp2_with fail;refine AT.out.mono ?_;rintro e w8 ⟨rfl,hc,hb⟩;have Sk:=qqh hc;have rV:=qqh (iU.out.trans hb);have HR8:=qqh (HR7.out.keep (hb.keeps (X':=fun b=>w.heap.size≤b) (fun b h=>h.1) (fun b h _=>h.2)));clear hb hc;go_wp2_with fail;go_ret;rw [kS.out];exact⟨⟨A6,n6,c6,rfl,HR8.out,Cu⟩,Sk.out,rV.out⟩
theorem ax.apart {w:World} {C G:Nat} {A:Option Addr} {n c:Nat} {L:List Int} {i:Nat} {t:TypeId} {v:Value} (h:ax w C A n c L i) (hG:aj w G t #[v]) (hv:∀ x,v≠.int .i32 x):cE w (fun b=>b≠C∧b≠G) 1 A n (runeCells L):=by
 refine⟨h.row.1,fun hn=>?_⟩;obtain⟨b,off,e,hb,hl,hc⟩:=h.row.2 hn;refine⟨b,off,e,⟨hb,fun he=>?_⟩,hl,hc⟩;subst he;have hlen:=h.len;obtain⟨x,hx⟩:∃ x,L[0]? = some x:=⟨_,List.getElem?_eq_getElem (by omega)⟩;have h1:=hc 0 (.int .i32 x) (by rw [eH,hx];rfl);rw [hG.cell]at h1;rcases off with _ | off
 ·simp at h1;exact hv x h1
 simp at h1
theorem ax.set {w:World} {C G:Nat} {A:Option Addr} {n c:Nat} {L:List Int} {i:Nat} {t:TypeId} {v:Value} (h:ax w C A n c L i) (hG:aj w G t #[v]) (hv:∀ x,v≠.int .i32 x) (hne:C≠G) (u:Value):ax (w.setCell ⟨G,0,none⟩ u) C A n c L i:=by
 have hk:bN w G (w.setCell ⟨G,0,none⟩ u):=bN.set _ _ _ _;exact⟨h.blk.same (hk.2.2.2.2 C h.blk.lt hne),(h.apart hG hv).keep (hk.keeps (fun b h=>h.2) (fun b h _=>h.1)),h.size,h.le,h.cap⟩
structure eU (w:World) (C P G:Nat) (A:Option Addr) (n c:Nat) (L:List Int) (j:Nat) (s:af) (wr:World):Prop where
  cur:ax wr C A n c L j
  box:aj wr P 133 #[.pointer (some ⟨C,0,none⟩)]
  set:∃ B m d,aj wr G 24 #[.slice B m d]∧cE wr (fun b=>b≠C∧b≠P∧b≠G∧w.heap.size≤b) 2 B m (an s)∧m≤d
  right:aF s
  but:bN w C wr
  lo:C<w.heap.size∧w.heap.size≤P∧w.heap.size≤G∧P≠G
section
variable {w wr w' : World} {C P G : Nat} {A : Option Addr} {n c : Nat} {L : List Int} {j : Nat} {s : af}
theorem eU.iV (h:eU w C P G A n c L j s wr) (hb:bN wr C w') {k:Nat} (hc:ax w' C A n c L k):eU w C P G A n c L k s w':=by
 obtain⟨B,m,d,h1,h2,h3⟩:=h.set;obtain⟨l1,l2,l3,l4⟩:=h.lo;exact⟨hc,(hb.2.2.2.2 P h.box.lt (by omega)).trans h.box,⟨B,m,d,(hb.2.2.2.2 G h1.lt (by omega)).trans h1,h2.keep (hb.keeps (fun b h=>h.1) (fun b h _=>h)),h3⟩,h.right,h.but.trans hb,h.lo⟩
theorem eU.below (h:eU w C P G A n c L j s wr) (hb:Below wr.heap.size wr w'):eU w C P G A n c L j s w':=h.iV (bN.below C hb) (h.cur.below hb)
theorem eU.drew (h:eU w C P G A n c L j s wr):eU w C P G A n c L j s wr.drew:=h.below ((Below.refl _ _).drew)
theorem eU.put (h:eU w C P G A n c L j s wr) {t:af} {B:Option Addr} {m d:Nat} (hr:cE wr (fun b=>b≠C∧b≠P∧b≠G∧w.heap.size≤b) 2 B m (an t)) (hd:m≤d) (ht:aF t) :
    eU w C P G A n c L j t (wr.setCell ⟨G,0,none⟩ (.slice B m d)):=by
 obtain⟨B0,m0,d0,h1,h2,h3⟩:=h.set;obtain⟨l1,l2,l3,l4⟩:=h.lo;have hk:bN wr G (wr.setCell ⟨G,0,none⟩ (.slice B m d)):=bN.set _ _ _ _;refine⟨h.cur.set h1 (fun x e=>by cases e) (by omega) _,(hk.2.2.2.2 P h.box.lt l4).trans h.box,⟨B,m,d,h1.put 0 _,hr.keep (hk.keeps (fun b h=>h.2.2.1) (fun b h _=>h)),hd⟩,ht,?_,h.lo⟩;exact⟨Nat.le_trans h.but.1 hk.1,hk.2.1.trans h.but.2.1,hk.2.2.1.trans h.but.2.2.1,hk.2.2.2.1.trans h.but.2.2.2.1,fun b hb hne=>(hk.2.2.2.2 b (Nat.lt_of_lt_of_le hb h.but.1) (by omega)).trans (h.but.2.2.2.2 b hb hne)⟩
end
theorem eU.arg {w wr:World} {C P G:Nat} {A:Option Addr} {n c:Nat} {L:List Int} {j:Nat} {s:af} (h:eU w C P G A n c L j s wr) {B:Option Addr} {m d:Nat} (hb:aj wr G 24 #[.slice B m d]):bU wr B m d s:=by
 obtain⟨B0,m0,d0,h1,h2,h3⟩:=h.set;have e : #[Value.slice B m d] = #[.slice B0 m0 d0]:=by
  unfold aj at hb h1;rw [hb]at h1;injection h1 with h1;injection h1
 have e2:Value.slice B m d=.slice B0 m0 d0:=(by simpa using e);cases e2;exact⟨h.right,h2.of,h3⟩
theorem eU.part {w wx w1:World} {C P G:Nat} {A:Option Addr} {n c:Nat} {L:List Int} {j j2:Nat} {s t:af} {e:Ending} (h:eU w C P G A n c L j s wx) (ht:aF t) (hp:eB wx C A n c L (.ok (t,j2)) e w1) :
    ∃ B m d,e=.returned (.slice B m d)∧eU w C P G A n c L j2 s w1∧bU w1 B m d t∧bN wx C w1:=by
 obtain⟨⟨B,m,d,rfl,hr,hd⟩,hc,hb⟩:=hp;exact⟨B,m,d,rfl,h.iV hb hc,⟨ht,hr.of,hd⟩,hb⟩
theorem eU.mh {w wx w1:World} {C P G:Nat} {A:Option Addr} {n c:Nat} {L:List Int} {j:Nat} {s:af} {cs:Array Value} {t:TypeId} (h:eU w C P G A n c L j s wx) (hb:bN wx C w1) (hG:aj wx G t cs):aj w1 G t cs :=
  (hb.2.2.2.2 G hG.lt (by have:=h.lo;omega)).trans hG
theorem eU.fh {w wx:World} {C P G:Nat} {A:Option Addr} {n c:Nat} {L:List Int} {j:Nat} {s:af} (h:eU w C P G A n c L j s wx):wx.cell? ⟨P,0,none⟩=some (.pointer (some ⟨C,0,none⟩)):=h.box.cell 0
theorem eU.op {w w1 w2:World} {C P G:Nat} {A:Option Addr} {n c:Nat} {L:List Int} {j:Nat} {s:af} {r:af × Int} {e:Ending} (h:eU w C P G A n c L j s w1) (hp:bS w1 r e w2) :
    ∃ B m d,e=.returned (.tuple #[.slice B m d,.int .i64 r.2])∧eU w C P G A n c L j s w2∧cE w2 (fun b=>b≠C∧b≠P∧b≠G∧w.heap.size≤b) 2 B m (an r.1)∧m≤d∧Below w1.heap.size w1 w2:=by
 obtain⟨B,m,d,rfl,h1,_,h2,h3⟩:=hp;refine⟨B,m,d,rfl,h.below h3,h1.lift (fun b hb=>?_),h2,h3⟩;obtain⟨B0,m0,d0,g1,_⟩:=h.set;have l1:=h.cur.blk.lt;have l2:=h.box.lt;have l3:=g1.lt;have l4:=h.but.1;exact⟨by omega,by omega,by omega,by omega⟩
theorem ot (B:Option Addr) (m d P G:Nat) (v:Value) (w:World) (hG:aj w G 24 #[v]) :
    Calls Tryz.prog 94 (#[.slice B m d,.int .i64 0] ++ #[.pointer (some ⟨P,0,none⟩),.pointer (some ⟨G,0,none⟩)]) w fun e w'=>e=.returned (.tuple #[])∧w'=w.setCell ⟨G,0,none⟩ (.slice B m d):=by
 have c0:=hG.cell 0;have f0:=hG.frozen 0;clear hG;go_enter Tryz.func94,Tryz.ntmps94;go_wp2_with fail;go_end0;exact⟨rfl,rfl⟩
theorem l8 (B:Option Addr) (m d C P G:Nat) (A:Option Addr) (n c:Nat) (L:List Int) (j:Nat) (x:Int) (w:World) (hx:x≠0) (hP:aj w P 133 #[.pointer (some ⟨C,0,none⟩)]) (hC:ax w C A n c L j) :
    Calls Tryz.prog 94 (#[.slice B m d,.int .i64 x] ++ #[.pointer (some ⟨P,0,none⟩),.pointer (some ⟨G,0,none⟩)]) w fun e w'=>e=aZ x j∧w'=w:=by
 have c0:=hP.cell 0;have d0:=hC.blk.cell 1;have hx2:(x != 0)=true:=(by simp;exact hx);have HF:=qqh (fun(W:World)=>bZ x j W);clear hP hC hx;go_enter Tryz.func94,Tryz.ntmps94;go_wp2_with fail;refine(HF.out _).mono ?_;rintro e w3 ⟨rfl,rfl⟩;go_wp2_with fail;exact⟨rfl,rfl,rfl⟩
end Go.Proofs.YtkggjgeihhialaaGreatDoor
