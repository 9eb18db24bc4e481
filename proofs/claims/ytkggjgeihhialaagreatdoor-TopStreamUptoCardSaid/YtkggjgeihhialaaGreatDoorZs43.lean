/- RdFileFr + RdFile + TopSingle + TopAlive -/
import Derived.Test.YtkggjgeihhialaaGreatDoorZs42
import Derived.Test.YtkggjgeihhialaaGreatDoorZs41
import Derived.Test.YtkggjgeihhialaaGreatDoorZs1
import Derived.Deep.CutRange
import Derived.Test.YtkggjgeihhialaaGreatDoorZs24
import Derived.Test.YtkggjgeihhialaaGreatDoorZs35
import Derived.Test.YtkggjgeihhialaaGreatDoorZs33
import Derived.Test.YtkggjgeihhialaaGreatDoorZs6
import Derived.Test.YtkggjgeihhialaaGreatDoorZs12
import Derived.Deep.DeepCutAuto
import Derived.Deep.CutBlock
set_option maxHeartbeats 12800000
set_option maxRecDepth 100000
namespace Go.Proofs.YtkggjgeihhialaaGreatDoor
open Go.RowKit
theorem x8 (F R:Nat) (x p:Int) (v:Value) (tF tR:TypeId) (u:FrameMode) (w:World) (hF:aj w F tF #[.int .i64 x,.int .i64 p]) (hR:aj w R tR #[v]) :
    CallsD Tryz.prog 37 #[.pointer (some ⟨F,0,none⟩),.pointer (some ⟨R,0,none⟩)] u w fun e u' w'=>u'=u∧e=.returned (.tuple #[])∧w'=if x=0 then w else w.setCell ⟨R,0,none⟩ (.slice none 0 0):=by
 have f0:=hF.cell 0;have r0:=hR.frozen 0;have r1:=hR.cell 0;clear hF hR;by_cases hx:x=0
 ·subst hx;go_enter_d Tryz.func37,Tryz.ntmps37;go_wp2_with fail;go_end0;exact⟨rfl,rfl⟩
 have hx2:(x != 0)=true:=(by simp;exact hx);go_enter_d Tryz.func37,Tryz.ntmps37;go_wp2_with fail;go_end0;exact⟨rfl,rfl⟩
def sr (F R:Nat):List Deferred:=[{ target:=.fn (.func 38) #[],args:=#[.pointer (some ⟨F,0,none⟩)] },{ target:=.fn (.func 37) #[.pointer (some ⟨F,0,none⟩),.pointer (some ⟨R,0,none⟩)],args:=#[] }]
theorem xG (tmps:Array Value) (F R:Nat) (p:Int) (v:Value) (tF tR:TypeId) (W:World) (Q:Ending→World→Prop) (h2:tmps[2]? = some (.pointer (some ⟨R,0,none⟩))) (h3:tmps[3]? = some (.pointer (some ⟨F,0,none⟩)))
    (hF:aj W F tF #[.int .i64 0,.int .i64 p]) (hR:aj W R tR #[v]) (hQ:Q (.returned (.tuple #[v,.agg #[.int .i64 0,.int .i64 p]])) W):Leaves Tryz.prog Tryz.f15 tmps Q (sr F R) .returning W:=by
 have y0:=hR.cell 0;have y1:=hF.cell 0;have y2:=hF.cell 1;refine leaves_cons (f:=38) (args:=#[.pointer (some ⟨F,0,none⟩)]) (by simp) (by simp [go_sem]) ?_;refine(Ct ⟨F,0,none⟩ W).mono ?_;rintro e u' w'' ⟨rfl,rfl,rfl⟩;show Leaves Tryz.prog Tryz.f15 tmps Q _ (settle .returning) w'';simp only [settle];refine leaves_cons (f:=37) (args:=#[.pointer (some ⟨F,0,none⟩),.pointer (some ⟨R,0,none⟩)]) (by simp) (by simp [go_sem]) ?_;refine(x8 F R 0 p v tF tR .returning w'' hF hR).mono ?_;rintro e u' w3 ⟨rfl,rfl,hw⟩;rw [if_pos rfl]at hw;subst hw;refine⟨_,?_,hQ⟩;simp [results,Tryz.results15,go_sem,h2,h3,y0,y1,y2]
theorem gA (tmps:Array Value) (F R B:Nat) (x p a b:Int) (v:Value) (tF tR:TypeId) (W:World) (Q:Ending→World→Prop) (h2:tmps[2]? = some (.pointer (some ⟨R,0,none⟩))) (h3:tmps[3]? = some (.pointer (some ⟨F,0,none⟩)))
    (hF:aj W F tF #[.int .i64 a,.int .i64 b]) (hR:aj W R tR #[v]) (hne:R≠F) (hBF:B≤F) (hBR:B≤R) (hBW:B≤W.heap.size) (hx:x≠0) (hQ:∀ W2,Below B W W2→Q (.returned (.tuple #[.slice none 0 0,.agg #[.int .i64 x,.int .i64 p]])) W2) :
    Leaves Tryz.prog Tryz.f15 tmps Q (sr F R) (.panicking [{ v:=.iface 132 (.agg #[.int .i64 x,.int .i64 p]),recovered:=false }]) W:=by
 refine leaves_cons (f:=38) (args:=#[.pointer (some ⟨F,0,none⟩)]) (by simp) (by simp [go_sem]) ?_;refine(xA F x p a b tF [] W hF).mono ?_;rintro e u' w'' ⟨rfl,rfl,Sp,lZ⟩;have R4:aj w'' R tR #[v]:=(lZ.2.2.2.2 R hR.lt hne).trans hR;show Leaves Tryz.prog Tryz.f15 tmps Q _ (settle (.panicking [{ v:=.iface 132 (.agg #[.int .i64 x,.int .i64 p]),recovered:=true }])) w'';simp only [settle,List.dropWhile];refine leaves_cons (f:=37) (args:=#[.pointer (some ⟨F,0,none⟩),.pointer (some ⟨R,0,none⟩)]) (by simp) (by simp [go_sem]) ?_;refine(x8 F R x p v tF tR .returning w'' Sp R4).mono ?_;rintro e u' w3 ⟨rfl,rfl,hw⟩;rw [if_neg hx]at hw;subst hw;have bJ:=aZ.set w'' R 0 (.slice none 0 0);have hF3:aj (w''.setCell ⟨R,0,none⟩ (.slice none 0 0)) F tF #[.int .i64 x,.int .i64 p]:=(bJ.2.2.2.2 F Sp.lt (Ne.symm hne)).trans Sp;have hR3:aj (w''.setCell ⟨R,0,none⟩ (.slice none 0 0)) R tR #[.slice none 0 0]:=R4.put 0 _;have y0:=hR3.cell 0;have y1:=hF3.cell 0;have y2:=hF3.cell 1;have hQ2:=hQ _ ((lZ.to hBW hBF).trans (bJ.to (Nat.le_trans hBW lZ.1) hBR));generalize w''.setCell ⟨R,0,none⟩ (.slice none 0 0)=w9 at *;refine⟨_,?_,hQ2⟩;simp [results,Tryz.results15,go_sem,h2,h3,y0,y1,y2]
def fX (lo C:Nat) (w:World) (v:Value) (l:List aF):Prop:=bX (ew w (uI lo C v)) 103 16 w lo v l
theorem fX.nil (lo C:Nat) (w:World):fX lo C w (.slice none 0 0) []:=bX.nil _ _
theorem fX.form {lo C:Nat} {w:World} {v:Value} {l:List aF} (h:fX lo C w v l):∃ A c,v=.slice A l.length c∧l.length≤c:=bX.form h
theorem fX.but {lo C:Nat} {w w':World} {v:Value} {l:List aF} (h:fX lo C w v l) (hb:aZ w C w') (hC:C<lo):fX lo C w' v l :=
  bX.kept (fun _ _ ho=>yX ho hb hC) (fun _ _=>ew.keep (hb.keeps (fun _ h=>h.2.1) (fun _ h _=>h))) h
theorem fX.below {lo C:Nat} {w w':World} {v:Value} {l:List aF} (h:fX lo C w v l) (hb:Below w.heap.size w w'):fX lo C w' v l :=
  bX.kept (fun _ _ ho=>dJ ho hb) (fun _ _=>ew.keep (aa.any hb)) h
theorem fX.put {lo C:Nat} {w:World} {v:Value} {l:List aF} (h:fX lo C w v l) {g:Nat} (hg:g<lo) (i:Nat) (u:Value):fX lo C (w.setCell ⟨g,i,none⟩ u) v l :=
  bX.kept (fun _ _ ho=>oU ho hg) (fun _ _=>ew.keep (aa.setCell (p:=⟨g,i,none⟩) u (fun b hb=>by have:=hb.1;show b≠g;omega) (fun _ h _=>h))) h
theorem fX.apart {lo C:Nat} {w:World} {v:Value} {l:List aF} (h:fX lo C w v l) {b:Nat} (hb:w.heap.size≤b):v.ownBlock≠some b:=by
 obtain⟨css,h1,h2,h3,h4⟩:=h;intro e;have:=(aU h4 e).2;omega
theorem fX.push {lo C:Nat} {w:World} {v:Value} {l:List aF} (h:fX lo C w v l) (a:aF) {cs:List Value} (ha:ew w (uI lo C v) a cs) :
    ∃ ys,w.ownsRow lo 103 16 v l.length ys∧∀ v' w',aV lo 103 16 v w (l.length+1) (ys++cs) v' w'→fX lo C w' v' (l++[a]):=by
 obtain⟨css,h1,h2,h3,h4⟩:=h;refine⟨css.flatten,h4,fun v' w' an=>?_⟩;have hk:aa w (uI lo C v) w' (uI lo C v'):=zB an;exact bX.push h1 h2 h3 (fun _ _=>ew.keep hk) (ha.keep hk) ha.one.1 an
theorem fX.done {lo C:Nat} {w:World} {A:Option Addr} {c:Nat} {l:List aF} (h:fX lo C w (.slice A l.length c) l):gE w (fun b=>lo≤b) A l.length l:=by
 have hh:=h;obtain⟨css,h1,h2,h3,h4⟩:=hh;exact bX.done h (fun _ _=>ew.keep (aa.refl (fun b hb=>hb.1))) (fun b hb=>(aU h4 hb).1)
structure tf (w:World) (C:Nat) (A:Option Addr) (n c:Nat) (L:List Int) (wr:World) (j:Nat) (v:Value) (acc:List aF):Prop where
  cur:ay wr C A n c L j
  row:cy wr (fun b=>w.heap.size+2≤b∧b<C) 1 A n (runeCells L)
  res:aj wr w.heap.size 55 #[v]
  flt:aj wr (w.heap.size+1) 38 #[.int .i64 0,.int .i64 0]
  own:fX (C+1) C wr v acc
  below:Below w.heap.size w wr
  hC:w.heap.size+2≤C
section
variable {w wr w' : World} {C : Nat} {A : Option Addr} {n c : Nat} {L : List Int} {j j' : Nat} {v : Value} {acc : List aF}
theorem tf.step (h:tf w C A n c L wr j v acc) (hc:ay w' C A n c L j') (hb:aZ wr C w'):tf w C A n c L w' j' v acc:=by
 have hC:=h.hC;exact⟨hc,h.row.keep (hb.keeps (fun b h=>by have:=h.2;omega) (fun _ h _=>h)),(hb.2.2.2.2 _ h.res.lt (by omega)).trans h.res,(hb.2.2.2.2 _ h.flt.lt (by omega)).trans h.flt,h.own.but hb (Nat.lt_succ_self _),h.below.trans (hb.to h.below.size (by omega)),hC⟩
theorem tf.on (h:tf w C A n c L wr j v acc) (hb:Below wr.heap.size wr w'):tf w C A n c L w' j v acc :=
  ⟨h.cur.below hb,h.row.keep (aa.any hb),h.res.below hb h.res.lt,h.flt.below hb h.flt.lt,h.own.below hb,h.below.trans (hb.mono h.below.size),h.hC⟩
theorem tf.push (h:tf w C A n c L wr j v acc) {v':Value} {w9:World} {m:Nat} {ys zs:List Value} {l:List aF} (hown:wr.ownsRow (C+1) 103 16 v m ys) (an:aV (C+1) 103 16 v wr (m+1) zs v' w9) (hn:fX (C+1) C w9 v' l) (hsz:C+1≤wr.heap.size) :
    tf w C A n c L (w9.setCell ⟨w.heap.size,0,none⟩ v') j v' l:=by
 have hC:=h.hC;have cF:Below (C+1) wr w9:=an.below hsz hown;have hcb:ay w9 C A n c L j:=⟨h.cur.blk.same (cF.block C (Nat.lt_succ_self _)),((h.row.keep (X':=fun b=>w.heap.size+2≤b∧b<C) (fun b hX hl=>⟨cF.block b (by omega),hX,Nat.lt_of_lt_of_le hl cF.size⟩)).lift (fun b h=>by have:=h.2;omega)),h.cur.size,h.cur.le,h.cur.cap⟩;have VD:cy w9 (fun b=>w.heap.size+2≤b∧b<C) 1 A n (runeCells L):=h.row.keep (fun b hX hl=>⟨cF.block b (by omega),hX,Nat.lt_of_lt_of_le hl cF.size⟩);have UA:aj w9 w.heap.size 55 #[v]:=(cF.block _ (by omega)).trans h.res;have Pq:aj w9 (w.heap.size+1) 38 #[.int .i64 0,.int .i64 0]:=(cF.block _ (by omega)).trans h.flt;have O9:Below w.heap.size w w9:=h.below.trans (cF.mono (by omega));have hb:=aZ.set w9 w.heap.size 0 v';have hrow:cy (w9.setCell ⟨w.heap.size,0,none⟩ v') (fun b=>w.heap.size+2≤b∧b<C) 1 A n (runeCells L):=VD.keep (hb.keeps (fun b h=>by have:=h.1;omega) (fun _ h _=>h));exact⟨⟨hcb.blk.same (hb.2.2.2.2 C hcb.blk.lt (by omega)),hrow.lift (fun b h=>by have:=h.2;omega),hcb.size,hcb.le,hcb.cap⟩,hrow,UA.put 0 v',(hb.2.2.2.2 _ Pq.lt (by omega)).trans Pq,hn.put (by omega) 0 v',O9.trans (hb.to O9.size (Nat.le_refl _)),hC⟩
end
def rI (w:World) (r:List aF × (Int × Int)) (e:Ending) (w':World):Prop :=
  (∃ A n c,e=.returned (.tuple #[.slice A n c,.agg #[.int .i64 r.2.1,.int .i64 r.2.2]])∧gE w' (fun b=>w.heap.size≤b) A n r.1∧n≤c)∧Below w.heap.size w w'
theorem gE.nil (w:World) (X:Nat→Prop):gE w X none 0 []:=⟨[],rfl,rfl,by simp,by simp,cy.nil 16⟩
theorem F4 {L:List Int} {f i:Nat} {l:List aF} (h:pk L (aB L i)<0):fQ L (f+1) i l=.ok l:=by rw [fQ,if_pos h]
theorem EH {L:List Int} {f i:Nat} {l:List aF} (h:¬ pk L (aB L i)<0) (h2:l.length=200):fQ L (f+1) i l=.error (5,aB L i):=by rw [fQ,if_neg h,if_pos h2]
theorem DZ {L:List Int} {f i:Nat} {l:List aF} {e:Int × Nat} (h:¬ pk L (aB L i)<0) (h2:¬ l.length=200) (h3:iL L (aB L i)=.error e):fQ L (f+1) i l=.error e:=by rw [fQ,if_neg h,if_neg h2,h3]
theorem Eg {L:List Int} {f i j:Nat} {l:List aF} {p:aF} {e:Int × Nat} (h:¬ pk L (aB L i)<0) (h2:¬ l.length=200) (h3:iL L (aB L i)=.ok (p,j)) (h4:aR L (aB L j) 59=.error e):fQ L (f+1) i l=.error e:=by rw [fQ,if_neg h,if_neg h2,h3];simp only;rw [h4]
theorem EA {L:List Int} {f i j k:Nat} {l:List aF} {p:aF} (h:¬ pk L (aB L i)<0) (h2:¬ l.length=200) (h3:iL L (aB L i)=.ok (p,j)) (h4:aR L (aB L j) 59=.ok k):fQ L (f+1) i l=fQ L f k (l++[p]):=by rw [fQ,if_neg h,if_neg h2,h3];simp only;rw [h4]
theorem mZ {w:World} {X:Nat→Prop} {p:aF} {cs:List Value} (h:ew w X p cs):∃ v0 v1 v2 v3 v4 v5 v6 v7 v8 v9 v10 v11 v12 ud uf tJ,cs = [v0,v1,v2,v3,v4,v5,v6,v7,v8,v9,v10,v11,v12,ud,uf,tJ]:=by
 obtain⟨A',n',c',L1,a1,x1,L2,a2,x2,L3,a3,x3,R1,b1,y1,R2,b2,y2,R3,b3,y3,rfl⟩:=h.form;exact⟨_,_,_,_,_,_,_,_,_,_,_,_,_,_,_,_,rfl⟩
theorem vA (s:ByteArray) (w:World) (hs:s.size≤1099511627776) :
    Calls Tryz.prog 15 #[.string s] w (rI w (gU (cE s 0))):=by
  obtain⟨i0,Je,u0,z1,z2⟩:=info_parts Iz
  have hmf:∀ (fn:Fn) (first cap:Array Value) (w:World),(Instr.makeFunc fn first cap).run Tryz.prog w=.ok (.func fn first cap) w:=fun _ _ _ _=>rfl
  have HD:=qqh (fun(W:World)=>show Calls Tryz.prog 7 #[.string s] W fun e w'=>∃ v,e=.returned v∧o8 w' W.heap.size v (cE s 0)∧Below W.heap.size W w' from oS s W hs)
  have HV:=qqh (show fN (cE s 0) from oC s)
  have hLs:(cE s 0).length≤s.size:=by
    unfold cE
    rw [List.length_map]
    have:=qI s s.size 0 (by omega)
    omega
  generalize cE s 0=L at *
  have dV:=qqh (show Below w.heap.size w ((w.alloc (.cells #[.slice none 0 0] 55)).alloc (.cells #[.int .i64 0,.int .i64 0] 38)) from((Below.refl _ _).alloc (Nat.le_refl _) _).alloc (by simp) _)
  have fO:=qqh (show aj ((w.alloc (.cells #[.slice none 0 0] 55)).alloc (.cells #[.int .i64 0,.int .i64 0] 38)) w.heap.size 55 #[.slice none 0 0] from(aj.new w _ _).alloc _)
  have qR:=qqh (show aj ((w.alloc (.cells #[.slice none 0 0] 55)).alloc (.cells #[.int .i64 0,.int .i64 0] 38)) (w.heap.size+1) 38 #[.int .i64 0,.int .i64 0] from by
    have:=aj.new (w.alloc (.cells #[.slice none 0 0] 55)) 38 #[.int .i64 0,.int .i64 0]
    simpa using this)
  have Vd:=qqh (show w.heap.size+2≤((w.alloc (.cells #[.slice none 0 0] 55)).alloc (.cells #[.int .i64 0,.int .i64 0] 38)).heap.size by simp)
  go_enter_defers Tryz.func15,Tryz.ntmps15
  go_wp2_with fail
  refine(HD.out _).mono ?_
  rintro e w1 ⟨v,rfl,ho,hb⟩
  have bR:=qqh (dV.out.trans (hb.mono dV.out.size))
  have gI:=qqh (fO.out.below hb fO.out.lt)
  have fK:=qqh (qR.out.below hb qR.out.lt)
  have sJ:w.heap.size+2≤w1.heap.size:=Nat.le_trans Vd.out hb.size
  obtain⟨n,hn⟩:∃ n,L.length=n:=⟨_,rfl⟩
  unfold o8 at ho
  rw [hn]at ho
  have XT:n≤4611686018427387904:=by omega
  obtain⟨A,c,rfl,hnc⟩:=aJ ho
  have hrow:cy (w1.alloc (.cells #[.slice A n c,.int .i64 0] 96)) (fun b=>w.heap.size+2≤b∧b<w1.heap.size) 1 A n (runeCells L) :=
    (cy.cj (X:=fun b=>w.heap.size+2≤b∧b<w1.heap.size) ho (fun b hb=>⟨Nat.le_trans Vd.out (aU ho hb).1,(aU ho hb).2⟩)).keep (aa.alloc _ (fun b hb _=>hb))
  have kZ:=qqh (show tf w w1.heap.size A n c L (w1.alloc (.cells #[.slice A n c,.int .i64 0] 96)) 0 (.slice none 0 0) [] from
    ⟨⟨⟨_,aj.new _ _ _⟩,hrow.lift (fun b h=>by have:=h.2;omega),XT,Nat.zero_le _,hnc⟩,hrow,gI.out.alloc _,fK.out.alloc _,fX.nil _ _ _,bR.out.alloc bR.out.size _,sJ⟩)
  have hC:w1.heap.size+1≤(w1.alloc (.cells #[.slice A n c,.int .i64 0] 96)).heap.size:=by simp
  have GM:=qqh hn
  clear ho hb HD fO qR dV Vd hrow bR gI fK
  go_upto_region 4 with fail
  generalize w1.alloc (.cells #[.slice A n c,.int .i64 0] 96)=w2 at *
  generalize w1.heap.size=C at *
  have c0:=kZ.out.cur.blk.cell 0
  by_cases vB:16000<n
  · have lH:=qqh (sH (L:=L) (by rw [hn];exact vB))
    have C8:=qqh (fun(W:World)=>bT 4 0 W)
    clear hn
    go_wp2_with fail
    refine(C8.out _).mono ?_
    rintro e w3 ⟨rfl,rfl⟩
    go_wp2_with fail
    refine gA _ (w.heap.size+1) w.heap.size w.heap.size 4 0 0 0 _ _ _ _ _ rfl rfl kZ.out.flt kZ.out.res (by omega) (by omega) (Nat.le_refl _) kZ.out.below.size (by decide) (fun W2 aQ=>?_)
    rw [lH.out]
    exact⟨⟨none,0,0,rfl,gE.nil _ _,Nat.le_refl _⟩,kZ.out.below.trans aQ⟩
  · have HMU:=qqh (show ¬ 16000<L.length from fun h=>vB (by rw [← hn];exact h))
    have hn5:n≤16000:=by omega
    have gD:=qqh (fun(W:World) (m:Nat) (h:ay W C A n c L m)=>cK W C A n c L m h)
    have pM:=qqh (fun(W:World) (m:Nat) (h:ay W C A n c L m)=>jj W C A n c L m h)
    have GB:=qqh (fun(W:World) (m:Nat) (r:Int) (h:ay W C A n c L m) (hr:r ≠ -1)=>eZ W C A n c L m r h hr)
    have pL:=qqh (fun(W:World) (m:Nat) (h:ay W C A n c L m)=>Oa W C A n c L m h HV.out (by omega))
    obtain⟨R0,Fz⟩:∃ R0,fQ L (L.length+1) 0 [] = R0:=⟨_,rfl⟩
    have kf:=qqh (fun(x:Int) (p:Nat) (h:R0=.error (x,p))=>show gU L=([],(x,(p:Int))) from uH HMU.out (Fz.trans h))
    have HXN:=qqh (fun(x:Int) (p:Nat) (h:R0=.error (x,p))=>show x≠0 from Gn L _ _ _ _ _ (Fz.trans h))
    have Ll:=qqh (fun(l:List aF) (h:R0=.ok l)=>show gU L=(l,(0,0)) from yz HMU.out (Fz.trans h))
    have fO:=qqh Fz
    generalize gU L=RP at *
    have aao:decide ((16000:Int)<(n:Int))=false:=decide_eq_false (by omega)
    clear hn Fz vB
    go_wp2_with fail
    refine(pM.out _ 0 kZ.out.cur).mono ?_
    rintro e w3 ⟨rfl,kR,bJ⟩
    have eF:=qqh (kZ.out.step kR bJ)
    have hC3:C+1≤w3.heap.size:=Nat.le_trans hC bJ.1
    clear kR bJ c0 aao hC
    go_wp2_with fail
    go_loopw [25] (fun _ wr=>∃ (f j:Nat) (acc:List aF) (v:Value),j≤n∧n+1≤f+j∧R0=fQ L f j acc∧acc.length≤200∧tf w C A n c L wr (aB L j) v acc∧C+1≤wr.heap.size) (fun _ wr=>n - (match wr.cell? ⟨C,1,none⟩with | some (.int _ j)=>j.toNat | _=>0))
    case atStart=>exact⟨L.length+1,0,[],_,Nat.zero_le _,by have:=GM.out;omega,fO.out.symm,Nat.zero_le _,eF.out,hC3⟩
    case round=>
      obtain⟨f0,j,acc,v,hj,hf,aY,AK,hfl,hCr⟩:=hrel
      obtain⟨f,rfl⟩:∃ f,f0=f+1:=⟨f0 - 1,by omega⟩
      obtain⟨a,ha⟩:∃ a,aB L j=a:=⟨_,rfl⟩
      have Nr:j≤a:=by rw [← ha];exact dm L j
      have ep:=qqh aY
      have HA:=qqh ha
      rw [ha]at hfl
      have kZ:=qqh hfl
      have nT:=qqh (hfl.cur.blk.cell 1)
      have han:=hfl.cur.le
      obtain⟨Av,cv,rfl,su⟩:=hfl.own.form
      clear aY ha hfl
      go_wp2_with fail
      refine(gD.out _ a kZ.out.cur).mono ?_
      rintro e w4 ⟨rfl,kM,hb4⟩
      have gW:=qqh (kZ.out.step kM hb4)
      have Y7:C+1≤w4.heap.size:=Nat.le_trans hCr hb4.1
      clear kM hb4
      have r4:=gW.out.res.cell 0
      by_cases hneg:pk L a<0
      · have hg:decide ((0:Int)≤pk L a)=false:=decide_eq_false (by omega)
        have lH:=qqh (Ll.out acc (ep.out.trans (F4 (by rw [HA.out];exact hneg))))
        clear hneg
        go_wp2_with fail
        have r5:=gW.out.res.frozen 0
        have s4:=gW.out.flt.cell 0
        have s5:=gW.out.flt.cell 1
        have s6:=gW.out.flt.frozen 0
        have s7:=gW.out.flt.frozen 1
        go_region
        obtain⟨h9R,h9F,h9B⟩:=zK (m:=1) gW.out.res gW.out.flt (show w.heap.size≠w.heap.size+1 by omega)
        obtain⟨h9b,h9k⟩:=h9B w.heap.size (Nat.le_refl _) (by omega) gW.out.below.size
        have hW:(((w4.setCell { block:=w.heap.size,off:=0 } (Value.slice Av acc.length cv)).setCell { block:=w.heap.size+1,off:=0 } (Value.int IntKind.i64 0)).setCell { block:=w.heap.size+1,off:=1 } (Value.int IntKind.i64 0)).drew=(((w4.drewN 1).setCell { block:=w.heap.size,off:=0 } (Value.slice Av acc.length cv)).setCell { block:=w.heap.size+1,off:=0 } (Value.int IntKind.i64 0)).setCell { block:=w.heap.size+1,off:=1 } (Value.int IntKind.i64 0):=rfl
        rw [hW]
        have hCC:=gW.out.hC
        have jz:=qqh h9R
        have Ue:=qqh h9F
        have ME:=qqh (gW.out.below.trans h9b)
        have hpx:=gW.out.own.done
        have P0:=qqh (show aa w4 (fun b=>C+1≤b) _ (fun b=>w.heap.size≤b) from fun b hb hl=>let ⟨e,_,h2⟩:=h9k b ⟨by omega,by omega⟩ hl;⟨e,by omega,h2⟩)
        have xe:=qqh (hpx.keep P0.out)
        clear h9R h9F h9B h9b h9k r4 r5 s4 s5 s6 s7 P0 hpx hW
        generalize (((w4.drewN 1).setCell { block:=w.heap.size,off:=0 } (Value.slice Av acc.length cv)).setCell { block:=w.heap.size+1,off:=0 } (Value.int IntKind.i64 0)).setCell { block:=w.heap.size+1,off:=1 } (Value.int IntKind.i64 0)=w9 at *
        go_wp2_with fail
        refine xG _ (w.heap.size+1) w.heap.size 0 (.slice Av acc.length cv) _ _ w9 _ rfl rfl Ue.out jz.out ?_
        rw [lH.out]
        exact⟨⟨Av,_,cv,rfl,xe.out,su⟩,ME.out⟩
      · have hg:decide ((0:Int)≤pk L a)=true:=decide_eq_true (by omega)
        have HNG:=qqh hneg
        by_cases hm:acc.length=200
        · have HE:=qqh (ep.out.trans (EH (by rw [HA.out];exact hneg) hm))
          have uz:=qqh (show R0=.error (5,a) by rw [HE.out,HA.out])
          have lH:=qqh (kf.out 5 a uz.out)
          have y4:=gW.out.cur.blk.cell 1
          rw [hm]at r4
          clear hneg
          go_wp2_with fail
          refine(bT 5 a _).mono ?_
          rintro e w5 ⟨rfl,rfl⟩
          go_wp2_with fail
          refine gA _ (w.heap.size+1) w.heap.size w.heap.size 5 a 0 0 _ _ _ _ _ rfl rfl gW.out.flt gW.out.res (by omega) (by omega) (Nat.le_refl _) gW.out.below.size (by decide) (fun W2 aQ=>?_)
          rw [lH.out]
          exact⟨⟨none,0,0,rfl,gE.nil _ _,Nat.le_refl _⟩,gW.out.below.trans aQ⟩
        · have hm2:¬(acc.length:Int)=200:=by omega
          have qm:((acc.length:Int) == 200)=false:=by rw [beq_eq_false_iff_ne];exact hm2
          have HM:=qqh hm
          clear hm hm2
          generalize mE:acc.length=al at *
          cases hp:iL L a with
          | error e0=>
            obtain⟨x,p⟩:=e0
            have HE:=qqh (ep.out.trans (DZ (by rw [HA.out];exact hneg) (by rw [mE];exact HM.out) (by rw [HA.out];exact hp)))
            have lH:=qqh (kf.out x p HE.out)
            have hx:=HXN.out x p HE.out
            have Df:=qqh (fun(W:World) (h:ay W C A n c L a)=>show Calls Tryz.prog 42 #[.pointer (some ⟨C,0,none⟩)] W (rK W C A n c L (.error (x,p))) by have:=pL.out W a h;rwa [hp]at this)
            clear hp hneg
            go_upto_region 11 with fail
            have iK:=qqh (gW.out.on (az (Below.refl w4.heap.size w4)))
            have hCC:=gW.out.hC
            -- {err
            refine av (S:=fun _=>True) [] (by kernel_rfl) trivial (fun _=>?_)
            refine fB (i:=0) (j:=1) (o:=⟨some 37,_,_,_,_,_⟩) (o2:=⟨some 38,_,_,_,_,_⟩) (by kernel_rfl) rfl rfl (fun K hK=>?_) (fun K hK=>?_)
            · go_simp
              try dsimp only
              refine hK.out _ _ trivial (fun _=>?_)
              clear hK K
              try simp only [zp,za,z0,zs]
              refine aD (i:=1) (o:=⟨some 38,_,_,_,_,_⟩) (by kernel_rfl) rfl (fun K hK=>?_)
              go_simp
              try dsimp only
              refine hK.out _ _ trivial (fun _=>?_)
              clear hK K
              try simp only [zp,za,z0,zs]
              refine aD (i:=2) (o:=⟨some 39,_,_,_,_,_⟩) (by kernel_rfl) rfl (fun K hK=>?_)
              go_simp
              go_at_call 42
              refine(Df.out _ iK.out.cur).mono ?_
              rintro e w5 ⟨he,cY⟩
              unfold aW at he
              subst he
              have zl:=(cY.2.2.2.2 _ iK.out.res.lt (by omega)).trans iK.out.res
              have JL:=(cY.2.2.2.2 _ iK.out.flt.lt (by omega)).trans iK.out.flt
              have Dd:=qqh zl
              have iM:=qqh JL
              have cZ:=qqh (iK.out.below.trans (cY.to iK.out.below.size (by omega)))
              clear cY zl JL
              go_wp2_with fail
              refine gA _ (w.heap.size+1) w.heap.size w.heap.size x p 0 0 _ _ _ _ _ rfl rfl iM.out Dd.out (by omega) (by omega) (Nat.le_refl _) cZ.out.size hx (fun W2 aQ=>?_)
              rw [lH.out]
              exact⟨⟨none,0,0,rfl,gE.nil _ _,Nat.le_refl _⟩,cZ.out.trans aQ⟩
            · go_simp
              try dsimp only
              refine hK.out _ _ trivial (fun _=>?_)
              clear hK K
              try simp only [zp,za,z0,zs]
              refine fB (i:=0) (j:=2) (o:=⟨some 37,_,_,_,_,_⟩) (o2:=⟨some 39,_,_,_,_,_⟩) (by kernel_rfl) rfl rfl (fun K hK=>?_) (fun K hK=>?_)
              · go_simp
                try dsimp only
                refine hK.out _ _ trivial (fun _=>?_)
                clear hK K
                try simp only [zp,za,z0,zs]
                refine aD (i:=2) (o:=⟨some 39,_,_,_,_,_⟩) (by kernel_rfl) rfl (fun K hK=>?_)
                go_simp
                go_at_call 42
                refine(Df.out _ iK.out.cur).mono ?_
                rintro e w5 ⟨he,cY⟩
                unfold aW at he
                subst he
                have zl:=(cY.2.2.2.2 _ iK.out.res.lt (by omega)).trans iK.out.res
                have JL:=(cY.2.2.2.2 _ iK.out.flt.lt (by omega)).trans iK.out.flt
                have Dd:=qqh zl
                have iM:=qqh JL
                have cZ:=qqh (iK.out.below.trans (cY.to iK.out.below.size (by omega)))
                clear cY zl JL
                go_wp2_with fail
                refine gA _ (w.heap.size+1) w.heap.size w.heap.size x p 0 0 _ _ _ _ _ rfl rfl iM.out Dd.out (by omega) (by omega) (Nat.le_refl _) cZ.out.size hx (fun W2 aQ=>?_)
                rw [lH.out]
                exact⟨⟨none,0,0,rfl,gE.nil _ _,Nat.le_refl _⟩,cZ.out.trans aQ⟩
              · go_simp
                go_at_call 42
                refine(Df.out _ iK.out.cur).mono ?_
                rintro e w5 ⟨he,cY⟩
                unfold aW at he
                subst he
                have zl:=(cY.2.2.2.2 _ iK.out.res.lt (by omega)).trans iK.out.res
                have JL:=(cY.2.2.2.2 _ iK.out.flt.lt (by omega)).trans iK.out.flt
                have Dd:=qqh zl
                have iM:=qqh JL
                have cZ:=qqh (iK.out.below.trans (cY.to iK.out.below.size (by omega)))
                clear cY zl JL
                go_wp2_with fail
                refine gA _ (w.heap.size+1) w.heap.size w.heap.size x p 0 0 _ _ _ _ _ rfl rfl iM.out Dd.out (by omega) (by omega) (Nat.le_refl _) cZ.out.size hx (fun W2 aQ=>?_)
                rw [lH.out]
                exact⟨⟨none,0,0,rfl,gE.nil _ _,Nat.le_refl _⟩,cZ.out.trans aQ⟩
            -- err}
          | ok q=>
            obtain⟨p,j2⟩:=q
            have Df:=qqh (fun(W:World) (h:ay W C A n c L a)=>show Calls Tryz.prog 42 #[.pointer (some ⟨C,0,none⟩)] W (rK W C A n c L (.ok (p,j2))) by have:=pL.out W a h;rwa [hp]at this)
            have HP:=qqh hp
            have iK:=qqh (gW.out.on (az (Below.refl w4.heap.size w4)))
            have hCC:=gW.out.hC
            have HAP:=qqh (fun(b:Nat) (hb:w4.heap.size≤b)=>gW.out.own.apart hb)
            have S9:=qqh (show(acc++[p]).length=al+1 by rw [List.length_append,mE];rfl)
            clear hp hneg
            go_upto_region 11 with fail
            go_cut [] from 21 to 47 (fun wx=>∃ v':Value,tf w C A n c L wx j2 v' (acc++[p])∧C+1≤wx.heap.size)
            case first=>
              -- {ok
              refine av (S:=fun _=>True) [] (by kernel_rfl) trivial (fun _=>?_)
              refine fB (i:=0) (j:=1) (o:=⟨some 37,_,_,_,_,_⟩) (o2:=⟨some 38,_,_,_,_,_⟩) (by kernel_rfl) rfl rfl (fun K hK=>?_) (fun K hK=>?_)
              · go_simp
                try dsimp only
                refine hK.out _ _ trivial (fun _=>?_)
                clear hK K
                try simp only [zp,za,z0,zs]
                refine aD (i:=1) (o:=⟨some 38,_,_,_,_,_⟩) (by kernel_rfl) rfl (fun K hK=>?_)
                go_simp
                try dsimp only
                refine hK.out _ _ trivial (fun _=>?_)
                clear hK K
                try simp only [zp,za,z0,zs]
                refine aD (i:=2) (o:=⟨some 39,_,_,_,_,_⟩) (by kernel_rfl) rfl (fun K hK=>?_)
                go_simp
                go_at_call 42
                refine(Df.out _ iK.out.cur).mono ?_
                rintro e w5 ⟨⟨cs,rfl,hpx⟩,kX,cY⟩
                obtain⟨v0,v1,v2,v3,v4,v5,v6,v7,v8,v9,v10,v11,v12,ud,uf,tJ,rfl⟩:=mZ hpx
                have iM:=qqh (iK.out.step kX cY)
                have RY:C+1≤w5.heap.size:=Nat.le_trans Y7 cY.1
                have xe:=qqh (ew.keep (X':=uI (C+1) C (.slice Av al cv)) (show aa w5 (tP w4.drew C) w5 (uI (C+1) C (.slice Av al cv)) from fun b h hl=>⟨rfl,⟨by have:=h.1;have h0:w4.drew.heap.size=w4.heap.size:=rfl;omega,h.2,HAP.out b (Nat.le_of_lt h.1)⟩,hl⟩) hpx)
                have r5:=iM.out.res.cell 0
                clear hpx kX cY
                try dsimp only
                refine hK.out _ _ trivial (fun _=>?_)
                clear hK K
                try simp only [zp,za,z0,zs]
                refine aD (i:=3) (o:=⟨some 40,_,_,_,_,_⟩) (by kernel_rfl) rfl (fun K hK=>?_)
                have fW:Below w5.heap.size w5 (w5.alloc (.cells #[v0,v1,v2,v3,v4,v5,v6,v7,v8,v9,v10,v11,v12,ud,uf,tJ] 103)):=(Below.refl _ _).alloc (Nat.le_refl _) _
                have vH:=qqh (iM.out.on fW)
                have EB:=qqh (xe.out.keep (aa.any fW))
                obtain⟨ys,fP,ei⟩:=vH.out.own.push p EB.out
                rw [mE]at fP ei
                have xB:=qqh fP
                have wX:=qqh ei
                have CL:=qqh (Rd.new w5 103 16 1 [v0,v1,v2,v3,v4,v5,v6,v7,v8,v9,v10,v11,v12,ud,uf,tJ] rfl)
                have qb:=qqh xe.out.one.2
                have hsz:C+1≤(w5.alloc (.cells #[v0,v1,v2,v3,v4,v5,v6,v7,v8,v9,v10,v11,v12,ud,uf,tJ] 103)).heap.size:=Nat.le_trans RY fW.size
                have r8:(w5.alloc (.cells #[v0,v1,v2,v3,v4,v5,v6,v7,v8,v9,v10,v11,v12,ud,uf,tJ] 103)).cell? ⟨w.heap.size,0,none⟩=some (.slice Av al cv):=vH.out.res.cell 0
                clear fW fP ei
                go_simp
                try dsimp only
                refine hK.out _ _ trivial (fun _=>?_)
                clear hK K
                try simp only [zp,za,z0,zs]
                refine aD (i:=4) (o:=⟨some 41,_,_,_,_,_⟩) (by kernel_rfl) rfl (fun K hK=>?_)
                refine cz _ rfl (.tmp 37) (.tmp 40) 55 rfl (C+1) 103 i0 _ 16 232 Tryz.underlying55 Je u0 z1 z2 rfl (by decide) _ _ _ rfl xB.out (w5.heap.size+1) (some ⟨w5.heap.size,0,none⟩) 1 1 [v0,v1,v2,v3,v4,v5,v6,v7,v8,v9,v10,v11,v12,ud,uf,tJ] rfl CL.out qb.out (by simp only [maxLen];omega) (by omega) hsz ?_
                intro v' w9 an
                obtain⟨A9,c9,Kr,_⟩:=(wX.out v' w9 an).form
                rw [S9.out]at Kr
                subst Kr
                have nL:=qqh (vH.out.push xB.out an (wX.out _ w9 an) hsz)
                have cF:=an.below hsz xB.out
                have x9:w9.cell? ⟨w.heap.size,0,none⟩=some (.slice Av al cv):=(cF.cell (p:=⟨w.heap.size,0,none⟩) (show w.heap.size<C+1 by omega)).trans (vH.out.res.cell 0)
                have Lk:aj w9 w.heap.size 55 #[.slice Av al cv]:=(cF.block w.heap.size (by omega)).trans vH.out.res
                have y9:=Lk.frozen 0
                have NW:=cF.size
                clear an
                try dsimp only
                refine hK.out _ _ trivial (fun _=>?_)
                clear hK K
                try simp only [zp,za,z0,zs]
                refine aD (i:=5) (by kernel_rfl) rfl (fun K hK=>?_)
                go_simp
                try dsimp only
                refine hK.out _ _ trivial (fun _=>?_)
                clear hK K
                try simp only [Act.put,List.setIfInBounds_toArray,List.set_cons_zero,List.set_cons_succ]
                refine aI (by kernel_rfl) ?_ _
                go_wp2_with fail
                go_meet
                exact⟨_,nL.out,by simpa using Nat.le_trans hsz NW⟩
              · go_simp
                try dsimp only
                refine hK.out _ _ trivial (fun _=>?_)
                clear hK K
                try simp only [Act.put,List.setIfInBounds_toArray,List.set_cons_zero,List.set_cons_succ]
                refine fB (i:=0) (j:=2) (o:=⟨some 37,_,_,_,_,_⟩) (o2:=⟨some 39,_,_,_,_,_⟩) (by kernel_rfl) rfl rfl (fun K hK=>?_) (fun K hK=>?_)
                · go_simp
                  try dsimp only
                  refine hK.out _ _ trivial (fun _=>?_)
                  clear hK K
                  try simp only [zp,za,z0,zs]
                  refine aD (i:=2) (o:=⟨some 39,_,_,_,_,_⟩) (by kernel_rfl) rfl (fun K hK=>?_)
                  go_simp
                  go_at_call 42
                  refine(Df.out _ iK.out.cur).mono ?_
                  rintro e w5 ⟨⟨cs,rfl,hpx⟩,kX,cY⟩
                  obtain⟨v0,v1,v2,v3,v4,v5,v6,v7,v8,v9,v10,v11,v12,ud,uf,tJ,rfl⟩:=mZ hpx
                  have iM:=qqh (iK.out.step kX cY)
                  have RY:C+1≤w5.heap.size:=Nat.le_trans Y7 cY.1
                  have xe:=qqh (ew.keep (X':=uI (C+1) C (.slice Av al cv)) (show aa w5 (tP w4.drew C) w5 (uI (C+1) C (.slice Av al cv)) from fun b h hl=>⟨rfl,⟨by have:=h.1;have h0:w4.drew.heap.size=w4.heap.size:=rfl;omega,h.2,HAP.out b (Nat.le_of_lt h.1)⟩,hl⟩) hpx)
                  have r5:=iM.out.res.cell 0
                  clear hpx kX cY
                  try dsimp only
                  refine hK.out _ _ trivial (fun _=>?_)
                  clear hK K
                  try simp only [zp,za,z0,zs]
                  refine aD (i:=3) (o:=⟨some 40,_,_,_,_,_⟩) (by kernel_rfl) rfl (fun K hK=>?_)
                  have fW:Below w5.heap.size w5 (w5.alloc (.cells #[v0,v1,v2,v3,v4,v5,v6,v7,v8,v9,v10,v11,v12,ud,uf,tJ] 103)):=(Below.refl _ _).alloc (Nat.le_refl _) _
                  have vH:=qqh (iM.out.on fW)
                  have EB:=qqh (xe.out.keep (aa.any fW))
                  obtain⟨ys,fP,ei⟩:=vH.out.own.push p EB.out
                  rw [mE]at fP ei
                  have xB:=qqh fP
                  have wX:=qqh ei
                  have CL:=qqh (Rd.new w5 103 16 1 [v0,v1,v2,v3,v4,v5,v6,v7,v8,v9,v10,v11,v12,ud,uf,tJ] rfl)
                  have qb:=qqh xe.out.one.2
                  have hsz:C+1≤(w5.alloc (.cells #[v0,v1,v2,v3,v4,v5,v6,v7,v8,v9,v10,v11,v12,ud,uf,tJ] 103)).heap.size:=Nat.le_trans RY fW.size
                  have r8:(w5.alloc (.cells #[v0,v1,v2,v3,v4,v5,v6,v7,v8,v9,v10,v11,v12,ud,uf,tJ] 103)).cell? ⟨w.heap.size,0,none⟩=some (.slice Av al cv):=vH.out.res.cell 0
                  clear fW fP ei
                  go_simp
                  try dsimp only
                  refine hK.out _ _ trivial (fun _=>?_)
                  clear hK K
                  try simp only [zp,za,z0,zs]
                  refine aD (i:=4) (o:=⟨some 41,_,_,_,_,_⟩) (by kernel_rfl) rfl (fun K hK=>?_)
                  refine cz _ rfl (.tmp 37) (.tmp 40) 55 rfl (C+1) 103 i0 _ 16 232 Tryz.underlying55 Je u0 z1 z2 rfl (by decide) _ _ _ rfl xB.out (w5.heap.size+1) (some ⟨w5.heap.size,0,none⟩) 1 1 [v0,v1,v2,v3,v4,v5,v6,v7,v8,v9,v10,v11,v12,ud,uf,tJ] rfl CL.out qb.out (by simp only [maxLen];omega) (by omega) hsz ?_
                  intro v' w9 an
                  obtain⟨A9,c9,Kr,_⟩:=(wX.out v' w9 an).form
                  rw [S9.out]at Kr
                  subst Kr
                  have nL:=qqh (vH.out.push xB.out an (wX.out _ w9 an) hsz)
                  have cF:=an.below hsz xB.out
                  have x9:w9.cell? ⟨w.heap.size,0,none⟩=some (.slice Av al cv):=(cF.cell (p:=⟨w.heap.size,0,none⟩) (show w.heap.size<C+1 by omega)).trans (vH.out.res.cell 0)
                  have Lk:aj w9 w.heap.size 55 #[.slice Av al cv]:=(cF.block w.heap.size (by omega)).trans vH.out.res
                  have y9:=Lk.frozen 0
                  have NW:=cF.size
                  clear an
                  try dsimp only
                  refine hK.out _ _ trivial (fun _=>?_)
                  clear hK K
                  try simp only [zp,za,z0,zs]
                  refine aD (i:=5) (by kernel_rfl) rfl (fun K hK=>?_)
                  go_simp
                  try dsimp only
                  refine hK.out _ _ trivial (fun _=>?_)
                  clear hK K
                  try simp only [Act.put,List.setIfInBounds_toArray,List.set_cons_zero,List.set_cons_succ]
                  refine aI (by kernel_rfl) ?_ _
                  go_wp2_with fail
                  go_meet
                  exact⟨_,nL.out,by simpa using Nat.le_trans hsz NW⟩
                · go_simp
                  go_at_call 42
                  refine(Df.out _ iK.out.cur).mono ?_
                  rintro e w5 ⟨⟨cs,rfl,hpx⟩,kX,cY⟩
                  obtain⟨v0,v1,v2,v3,v4,v5,v6,v7,v8,v9,v10,v11,v12,ud,uf,tJ,rfl⟩:=mZ hpx
                  have iM:=qqh (iK.out.step kX cY)
                  have RY:C+1≤w5.heap.size:=Nat.le_trans Y7 cY.1
                  have xe:=qqh (ew.keep (X':=uI (C+1) C (.slice Av al cv)) (show aa w5 (tP w4.drew C) w5 (uI (C+1) C (.slice Av al cv)) from fun b h hl=>⟨rfl,⟨by have:=h.1;have h0:w4.drew.heap.size=w4.heap.size:=rfl;omega,h.2,HAP.out b (Nat.le_of_lt h.1)⟩,hl⟩) hpx)
                  have r5:=iM.out.res.cell 0
                  clear hpx kX cY
                  try dsimp only
                  refine hK.out _ _ trivial (fun _=>?_)
                  clear hK K
                  try simp only [Act.put,List.setIfInBounds_toArray,List.set_cons_zero,List.set_cons_succ]
                  refine fB (i:=0) (j:=3) (o:=⟨some 37,_,_,_,_,_⟩) (o2:=⟨some 40,_,_,_,_,_⟩) (by kernel_rfl) rfl rfl (fun K hK=>?_) (fun K hK=>?_)
                  · go_simp
                    try dsimp only
                    refine hK.out _ _ trivial (fun _=>?_)
                    clear hK K
                    try simp only [zp,za,z0,zs]
                    refine aD (i:=3) (o:=⟨some 40,_,_,_,_,_⟩) (by kernel_rfl) rfl (fun K hK=>?_)
                    have fW:Below w5.heap.size w5 (w5.alloc (.cells #[v0,v1,v2,v3,v4,v5,v6,v7,v8,v9,v10,v11,v12,ud,uf,tJ] 103)):=(Below.refl _ _).alloc (Nat.le_refl _) _
                    have vH:=qqh (iM.out.on fW)
                    have EB:=qqh (xe.out.keep (aa.any fW))
                    obtain⟨ys,fP,ei⟩:=vH.out.own.push p EB.out
                    rw [mE]at fP ei
                    have xB:=qqh fP
                    have wX:=qqh ei
                    have CL:=qqh (Rd.new w5 103 16 1 [v0,v1,v2,v3,v4,v5,v6,v7,v8,v9,v10,v11,v12,ud,uf,tJ] rfl)
                    have qb:=qqh xe.out.one.2
                    have hsz:C+1≤(w5.alloc (.cells #[v0,v1,v2,v3,v4,v5,v6,v7,v8,v9,v10,v11,v12,ud,uf,tJ] 103)).heap.size:=Nat.le_trans RY fW.size
                    have r8:(w5.alloc (.cells #[v0,v1,v2,v3,v4,v5,v6,v7,v8,v9,v10,v11,v12,ud,uf,tJ] 103)).cell? ⟨w.heap.size,0,none⟩=some (.slice Av al cv):=vH.out.res.cell 0
                    clear fW fP ei
                    go_simp
                    try dsimp only
                    refine hK.out _ _ trivial (fun _=>?_)
                    clear hK K
                    try simp only [zp,za,z0,zs]
                    refine aD (i:=4) (o:=⟨some 41,_,_,_,_,_⟩) (by kernel_rfl) rfl (fun K hK=>?_)
                    refine cz _ rfl (.tmp 37) (.tmp 40) 55 rfl (C+1) 103 i0 _ 16 232 Tryz.underlying55 Je u0 z1 z2 rfl (by decide) _ _ _ rfl xB.out (w5.heap.size+1) (some ⟨w5.heap.size,0,none⟩) 1 1 [v0,v1,v2,v3,v4,v5,v6,v7,v8,v9,v10,v11,v12,ud,uf,tJ] rfl CL.out qb.out (by simp only [maxLen];omega) (by omega) hsz ?_
                    intro v' w9 an
                    obtain⟨A9,c9,Kr,_⟩:=(wX.out v' w9 an).form
                    rw [S9.out]at Kr
                    subst Kr
                    have nL:=qqh (vH.out.push xB.out an (wX.out _ w9 an) hsz)
                    have cF:=an.below hsz xB.out
                    have x9:w9.cell? ⟨w.heap.size,0,none⟩=some (.slice Av al cv):=(cF.cell (p:=⟨w.heap.size,0,none⟩) (show w.heap.size<C+1 by omega)).trans (vH.out.res.cell 0)
                    have Lk:aj w9 w.heap.size 55 #[.slice Av al cv]:=(cF.block w.heap.size (by omega)).trans vH.out.res
                    have y9:=Lk.frozen 0
                    have NW:=cF.size
                    clear an
                    try dsimp only
                    refine hK.out _ _ trivial (fun _=>?_)
                    clear hK K
                    try simp only [zp,za,z0,zs]
                    refine aD (i:=5) (by kernel_rfl) rfl (fun K hK=>?_)
                    go_simp
                    try dsimp only
                    refine hK.out _ _ trivial (fun _=>?_)
                    clear hK K
                    try simp only [Act.put,List.setIfInBounds_toArray,List.set_cons_zero,List.set_cons_succ]
                    refine aI (by kernel_rfl) ?_ _
                    go_wp2_with fail
                    go_meet
                    exact⟨_,nL.out,by simpa using Nat.le_trans hsz NW⟩
                  · have fW:Below w5.heap.size w5 (w5.alloc (.cells #[v0,v1,v2,v3,v4,v5,v6,v7,v8,v9,v10,v11,v12,ud,uf,tJ] 103)):=(Below.refl _ _).alloc (Nat.le_refl _) _
                    have vH:=qqh (iM.out.on fW)
                    have EB:=qqh (xe.out.keep (aa.any fW))
                    obtain⟨ys,fP,ei⟩:=vH.out.own.push p EB.out
                    rw [mE]at fP ei
                    have xB:=qqh fP
                    have wX:=qqh ei
                    have CL:=qqh (Rd.new w5 103 16 1 [v0,v1,v2,v3,v4,v5,v6,v7,v8,v9,v10,v11,v12,ud,uf,tJ] rfl)
                    have qb:=qqh xe.out.one.2
                    have hsz:C+1≤(w5.alloc (.cells #[v0,v1,v2,v3,v4,v5,v6,v7,v8,v9,v10,v11,v12,ud,uf,tJ] 103)).heap.size:=Nat.le_trans RY fW.size
                    have r8:(w5.alloc (.cells #[v0,v1,v2,v3,v4,v5,v6,v7,v8,v9,v10,v11,v12,ud,uf,tJ] 103)).cell? ⟨w.heap.size,0,none⟩=some (.slice Av al cv):=vH.out.res.cell 0
                    clear fW fP ei
                    go_simp
                    try dsimp only
                    refine hK.out _ _ trivial (fun _=>?_)
                    clear hK K
                    try simp only [Act.put,List.setIfInBounds_toArray,List.set_cons_zero,List.set_cons_succ]
                    refine aD (i:=0) (o:=⟨some 37,_,_,_,_,_⟩) (by kernel_rfl) rfl (fun K hK=>?_)
                    go_simp
                    try dsimp only
                    refine hK.out _ _ trivial (fun _=>?_)
                    clear hK K
                    try simp only [zp,za,z0,zs]
                    refine aD (i:=4) (o:=⟨some 41,_,_,_,_,_⟩) (by kernel_rfl) rfl (fun K hK=>?_)
                    refine cz _ rfl (.tmp 37) (.tmp 40) 55 rfl (C+1) 103 i0 _ 16 232 Tryz.underlying55 Je u0 z1 z2 rfl (by decide) _ _ _ rfl xB.out (w5.heap.size+1) (some ⟨w5.heap.size,0,none⟩) 1 1 [v0,v1,v2,v3,v4,v5,v6,v7,v8,v9,v10,v11,v12,ud,uf,tJ] rfl CL.out qb.out (by simp only [maxLen];omega) (by omega) hsz ?_
                    intro v' w9 an
                    obtain⟨A9,c9,Kr,_⟩:=(wX.out v' w9 an).form
                    rw [S9.out]at Kr
                    subst Kr
                    have nL:=qqh (vH.out.push xB.out an (wX.out _ w9 an) hsz)
                    have cF:=an.below hsz xB.out
                    have x9:w9.cell? ⟨w.heap.size,0,none⟩=some (.slice Av al cv):=(cF.cell (p:=⟨w.heap.size,0,none⟩) (show w.heap.size<C+1 by omega)).trans (vH.out.res.cell 0)
                    have Lk:aj w9 w.heap.size 55 #[.slice Av al cv]:=(cF.block w.heap.size (by omega)).trans vH.out.res
                    have y9:=Lk.frozen 0
                    have NW:=cF.size
                    clear an
                    try dsimp only
                    refine hK.out _ _ trivial (fun _=>?_)
                    clear hK K
                    try simp only [zp,za,z0,zs]
                    refine aD (i:=5) (by kernel_rfl) rfl (fun K hK=>?_)
                    go_simp
                    try dsimp only
                    refine hK.out _ _ trivial (fun _=>?_)
                    clear hK K
                    try simp only [Act.put,List.setIfInBounds_toArray,List.set_cons_zero,List.set_cons_succ]
                    refine aI (by kernel_rfl) ?_ _
                    go_wp2_with fail
                    go_meet
                    exact⟨_,nL.out,by simpa using Nat.le_trans hsz NW⟩
              -- ok}
            case rest=>
              obtain⟨v6,SI,hC6⟩:=hcut
              have pS:=qqh SI
              have aed:al<200:=by have:=HM.out;omega
              clear SI r4
              go_wp2_with fail
              refine(pM.out _ j2 pS.out.cur).mono ?_
              rintro e w7 ⟨rfl,qf,gH⟩
              have sP:=qqh (pS.out.step qf gH)
              have hC7:C+1≤w7.heap.size:=Nat.le_trans hC6 gH.1
              clear qf gH
              obtain⟨b,hb⟩:∃ b,aB L j2=b:=⟨_,rfl⟩
              have HB:=qqh hb
              rw [hb]at sP
              clear hb
              have Gp:=qqh (GB.out _ b 59 sP.out.cur (by decide))
              cases hnd:aR L b 59 with
              | error e0=>
                obtain⟨x,q⟩:=e0
                have HE:=qqh (ep.out.trans (Eg (by rw [HA.out];have:=HNG.out;omega) (by rw [mE];exact HM.out) (by rw [HA.out];exact HP.out) (by rw [HB.out];exact hnd)))
                have lH:=qqh (kf.out x q HE.out)
                have hx:=HXN.out x q HE.out
                rw [hnd]at Gp
                clear hnd
                go_wp2_with fail
                refine Gp.out.mono ?_
                rintro e w8 ⟨he,fW⟩
                unfold aW at he
                subst he
                have hr8:=(fW.2.2.2.2 _ sP.out.res.lt (by omega)).trans sP.out.res
                have Xx:=(fW.2.2.2.2 _ sP.out.flt.lt (by omega)).trans sP.out.flt
                have Y8:=qqh hr8
                have wv:=qqh Xx
                have vG:=qqh (sP.out.below.trans (fW.to sP.out.below.size (by omega)))
                clear fW hr8 Xx
                go_wp2_with fail
                refine gA _ (w.heap.size+1) w.heap.size w.heap.size x q 0 0 _ _ _ _ _ rfl rfl wv.out Y8.out (by omega) (by omega) (Nat.le_refl _) vG.out.size hx (fun W2 aQ=>?_)
                rw [lH.out]
                exact⟨⟨none,0,0,rfl,gE.nil _ _,Nat.le_refl _⟩,vG.out.trans aQ⟩
              | ok k=>
                have fk:=qqh (ep.out.trans (EA (by rw [HA.out];have:=HNG.out;omega) (by rw [mE];exact HM.out) (by rw [HA.out];exact HP.out) (by rw [HB.out];exact hnd)))
                have HKB:=qqh (show k=b+1 from(fJ hnd).1)
                have sn:=qqh (J2 HV.out.ok (by rw [GM.out];exact han) HP.out)
                rw [hnd]at Gp
                clear hnd
                go_wp2_with fail
                refine Gp.out.mono ?_
                rintro e w8 ⟨rfl,E9,fW⟩
                have wv:=qqh (sP.out.step E9 fW)
                have hC8:C+1≤w8.heap.size:=Nat.le_trans hC7 fW.1
                clear E9 fW
                go_wp2_with fail
                refine(pM.out _ k wv.out.cur).mono ?_
                rintro e w9 ⟨rfl,BI,cF⟩
                have nL:=qqh (wv.out.step BI cF)
                have hC9:C+1≤w9.heap.size:=Nat.le_trans hC8 cF.1
                clear BI cF
                go_wp2_with fail
                have hge:a≤b:=by have h1:=sn.out.1;have h2:=dm L j2;rw [HB.out]at h2;omega
                have hkb:=HKB.out
                have hkn:=wv.out.cur.le
                refine⟨⟨f,k,acc++[p],v6,hkn,by omega,fk.out,by rw [List.length_append,mE];simp;omega,nL.out,hC9⟩,?_⟩
                have e1:w9.cell? ⟨C,1,none⟩=some (.int .i64 ((aB L k:Nat):Int)):=nL.out.cur.blk.cell 1
                have e2:=nT.out
                have hle:=nL.out.cur.le
                have afx:=dm L k
                rw [e1,e2]
                simp only [Int.toNat_natCast,List.getElem?_toArray,List.getElem?_cons_succ,List.getElem?_cons_zero]
                omega
def zH (w:World) (A:Option Addr) (n:Nat):Prop:=∃ l:List ax,bh (aO w (fun _=>True)) w (fun _=>True) 7 A n l∧n≤maxLen
theorem zH.below {w w':World} {A:Option Addr} {n:Nat} (hb:Below w.heap.size w w') (h:zH w A n):zH w' A n:=by
 obtain⟨l,h1,h2⟩:=h;exact⟨l,h1.keep (aa.any hb) (fun _ _=>aO.keep (aa.any hb)),h2⟩
theorem uy {w:World} {X:Nat→Prop} {s:bC} {cs:List Value} (h:ek w X s cs):∃ A1 n1 c1 A2 n2 c2,cs = [.bool s.only?,.slice A1 n1 c1,.slice A2 n2 c2]∧iq w X s A1 n1 A2 n2:=by
 obtain⟨u,v,rfl,⟨A1,n1,c1,rfl,q1,q2⟩,⟨A2,n2,c2,rfl,q3,q4⟩⟩:=h;exact⟨A1,n1,c1,A2,n2,c2,rfl,q1,q3,q2,q4⟩
theorem nQ {w:World} {X:Nat→Prop} {s:bC} {A1 A2:Option Addr} {n1 c1 n2 c2:Nat} (h:ek w X s [.bool s.only?,.slice A1 n1 c1,.slice A2 n2 c2]):iq w X s A1 n1 A2 n2:=by
 obtain⟨_,_,he,⟨_,_,_,rfl,q1,q2⟩,⟨_,_,_,rfl,q3,q4⟩⟩:=h;injection he with _ he;injection he with e1 he;injection he with e2 _;cases e1;cases e2;exact⟨q1,q3,q2,q4⟩
theorem Gz {B:Nat} {a w:World} (h:Below B a w) (n:Nat):Below B a (w.drewN n):=h.trans ⟨rfl,rfl,rfl,Nat.le_refl _,fun _ _=>rfl⟩
theorem aj.pQ {w:World} {g b i:Nat} {t:TypeId} {cs:Array Value} (h:aj w g t cs) (hne:g≠b) (u:Value):aj (w.setCell ⟨b,i,none⟩ u) g t cs :=
  (Below.heap_setCell _ _ _ _ hne).trans h
def Ei:ByteArray:=⟨#[36,118,32,61,32,91,97,45,99,93,59,10,36,118,32,125,32,120,32,62,32,121,32,59,10,58,58,32,117,112,112,101,114,32,59,10]⟩
def JZ:ByteArray:=⟨#[97,120,98,195,169]⟩
noncomputable def vI:List aF:=(gU (cE Ei 0)).1
noncomputable def gS:bC:=(dM false vI).1
theorem LK:(gU (cE Ei 0)).2=(0,0):=by kernel_rfl
theorem ML:vI.length=3:=by kernel_rfl
theorem Lh:(dM false vI).2=(0,0):=by kernel_rfl
theorem Ob:cE JZ 0 = [97,120,98,233]:=by kernel_rfl
theorem Jh:Di gS [97,120,98,233] =([89,88,66,201],(0,0)):=by kernel_rfl
theorem L7:runesBytes [89,88,66,201] =⟨#[89,88,66,195,137]⟩:=by decide +kernel
theorem Iy (w:World) :
    Calls Tryz.prog 5 #[] w fun e w'=>e=.returned (.bool true)∧Below w.heap.size w w':=by
 have mw:=qqh (show Calls Tryz.prog 15 #[.string ⟨#[36,118,32,61,32,91,97,45,99,93,59,10,36,118,32,125,32,120,32,62,32,121,32,59,10,58,58,32,117,112,112,101,114,32,59,10]⟩] w fun e w'=>(∃ A n c,e=.returned (.tuple #[.slice A n c,.agg #[.int .i64 0,.int .i64 0]])∧gE w' (fun b=>w.heap.size≤b) A n vI∧n≤c)∧Below w.heap.size w w' by
  have h:=vA Ei w (by decide);unfold rI at h;rw [LK]at h;exact h)
 have OA:=qqh (fun(W:World)=>show Calls Tryz.prog 7 #[.string ⟨#[97,120,98,195,169]⟩] W fun e w'=>∃ v,e=.returned v∧o8 w' W.heap.size v [97,120,98,233]∧Below W.heap.size W w' by
  have h:=oS JZ W (by decide);unfold yZ at h;rw [Ob]at h;exact h)
 go_enter Tryz.func5,Tryz.ntmps5;go_wp2_with fail;refine mw.out.mono ?_;rintro e w1 ⟨⟨A,n,c,rfl,hx,_⟩,aT⟩;have hba:=(Below.refl w1.heap.size w1).alloc (Nat.le_refl _) (.cells #[.int .i64 0,.int .i64 0] 38);have bR:=qqh (aT.trans (hba.mono aT.size));have fK:=qqh (aj.new w1 38 #[.int .i64 0,.int .i64 0]);have HN:=qqh (show n≤maxLen by have:=hx.len;rw [ML]at this;simp only [maxLen];omega);have sv:=qqh (Dt.weak (fS hba hba.size) hx.rd);clear aT hx hba mw;go_wp2_with fail;refine(xR _ A n c vI _ HN.out (Nat.le_refl _) sv.out).mono ?_;rintro e w2 ⟨⟨cs,_,he,hcs⟩,aQ⟩;rw [Lh]at he;subst he;change ek _ _ gS _ at hcs;obtain⟨A1,n1,c1,A2,n2,c2,rfl,_⟩:=uy hcs;have hbc:=((Below.refl w2.heap.size w2).alloc (Nat.le_refl _) (.cells #[.bool gS.only?,.slice A1 n1 c1,.slice A2 n2 c2] 27)).alloc (by simp) (.cells #[.int .i64 0,.int .i64 0] 38);have bt:=qqh ((bR.out.trans (aQ.mono bR.out.size)).trans (hbc.mono (bR.out.trans (aQ.mono bR.out.size)).size));have iz:=qqh ((aj.new w2 27 #[.bool gS.only?,.slice A1 n1 c1,.slice A2 n2 c2]).alloc (.cells #[.int .i64 0,.int .i64 0] 38));have lg:=qqh (show aj ((w2.alloc (.cells #[.bool gS.only?,.slice A1 n1 c1,.slice A2 n2 c2] 27)).alloc (.cells #[.int .i64 0,.int .i64 0] 38)) (w2.heap.size+1) 38 #[.int .i64 0,.int .i64 0] by simpa using aj.new (w2.alloc (.cells #[.bool gS.only?,.slice A1 n1 c1,.slice A2 n2 c2] 27)) 38 #[.int .i64 0,.int .i64 0])
 have eT:=qqh (aj.below (aj.below fK.out aQ fK.out.lt) hbc (aj.below fK.out aQ fK.out.lt).lt);have lT:=qqh (nQ (hcs.keep (aa.below hbc (X':=fun _=>True) (fun _ _ _=>trivial))));clear aQ hcs hbc bR fK sv;go_upto_region 3 with fail;generalize (w2.alloc (.cells #[.bool gS.only?,.slice A1 n1 c1,.slice A2 n2 c2] 27)).alloc (.cells #[.int .i64 0,.int .i64 0] 38)=W2 at *;have s0:W2.cell? ⟨w2.heap.size,0,none⟩=some (.bool gS.only?):=iz.out.cell 0;have s1:W2.cell? ⟨w2.heap.size,1,none⟩=some (.slice A1 n1 c1):=iz.out.cell 1;have s2:W2.cell? ⟨w2.heap.size,2,none⟩=some (.slice A2 n2 c2):=iz.out.cell 2
 have HC:=qqh (fun(W:World) (hb:Below W2.heap.size W2 W)=>show W.cell? ⟨w2.heap.size,0,none⟩=some (.bool gS.only?)∧W.cell? ⟨w2.heap.size,1,none⟩=some (.slice A1 n1 c1)∧W.cell? ⟨w2.heap.size,2,none⟩=some (.slice A2 n2 c2) from
   ⟨(aj.below iz.out hb iz.out.lt).cell 0,(aj.below iz.out hb iz.out.lt).cell 1,(aj.below iz.out hb iz.out.lt).cell 2⟩)
 have ep:=qqh (fun(W:World) (hb:Below W2.heap.size W2 W) (At:Option Addr) (ct:Nat) (hct:4≤ct) (ht:pN W W.heap.size At 4 [97,120,98,233])=>show Calls Tryz.prog 8 #[.agg #[.bool gS.only?,.slice A1 n1 c1,.slice A2 n2 c2],.slice At 4 ct] W fun e w'=>yN W.heap.size w' ([89,88,66,201],(0,0)) e∧Below W.heap.size W w' by
  have h:=Cp (fun _=>True) gS [97,120,98,233] A1 A2 At n1 c1 n2 c2 4 ct W (lT.out.keep (aa.below hb (fun _ _ _=>trivial))) hct (by decide) ht;rwa [Jh]at h)
 unfold yN at ep;go_cut [5,6] (fun S0 V4 wx=>∃ (A:Option Addr) (n c G:Nat),S0=.slice A n c∧V4=.pointer (some ⟨G,0,none⟩)∧pN wx wx.heap.size A n [89,88,66,201]∧aj wx G 38 #[.int .i64 0,.int .i64 0]∧Below W2.heap.size W2 wx);case first=>
  refine av (S:=fun w'=>w'.cell? ⟨w2.heap.size,0,none⟩=some (.bool gS.only?)∧w'.cell? ⟨w2.heap.size,1,none⟩=some (.slice A1 n1 c1)∧w'.cell? ⟨w2.heap.size,2,none⟩=some (.slice A2 n2 c2)) [0] (by kernel_rfl) ⟨s0,s1,s2⟩ (fun aX=>?_);apply tt 0 17 rfl (by kernel_rfl) (fun _ _ _ h=>h) (by rfl) (by assumption)
  ·intro wq fl;(try dsimp only at fl);go_simp;(try with_reducible rfl)
  (try simp only [zp,za,z0,zs]);refine fB (i:=1) (j:=6) (o:=⟨some 18,_,_,_,_,_⟩) (o2:=⟨some 6,_,_,_,_,_⟩) (by kernel_rfl) rfl rfl (fun K hK=>?_) (fun K hK=>?_)
  ·go_simp;go_at_call 7;refine(OA.out W2.drew).mono ?_;rintro e va ⟨ua,rfl,Qs,hda⟩;obtain⟨Da,ka,rfl,hka⟩:=aJ Qs;have BZ:=qqh (show Below W2.heap.size W2 va from(az (Below.refl W2.heap.size W2)).trans (hda.mono (az (Below.refl W2.heap.size W2)).size));have WE:=qqh (Rd.cj Qs);clear Qs hda;(try dsimp only);refine hK.out _ _ ?_ (fun aX=>?_);exact HC.out _ BZ.out;clear hK K;(try simp only [zp,za,z0,zs]);refine fB (i:=2) (j:=6) (o:=⟨some 19,_,_,_,_,_⟩) (o2:=⟨some 6,_,_,_,_,_⟩) (by kernel_rfl) rfl rfl (fun K hK=>?_) (fun K hK=>?_)
   ·go_simp;go_at_call 8;refine(ep.out va BZ.out Da ka hka WE.out).mono ?_;rintro e ga ⟨⟨Ba,ma,qa,rfl,pK⟩,hba⟩;have JS:=qqh (show Below W2.heap.size W2 ga from(BZ.out).trans (hba.mono (BZ.out).size));have UL:=qqh pK.of;clear pK hba;(try dsimp only);refine hK.out _ _ ?_ (fun aX=>?_);exact HC.out _ JS.out;clear hK K;(try simp only [zp,za,z0,zs]);apply tp 3 16 rfl (by kernel_rfl) (fun _ _ _ h=>h) (by rfl)
    ·intro wq _;go_simp;(try with_reducible rfl)
    (try simp only [zp,za,z0,zs]);apply tp 4 20 rfl (by kernel_rfl) (fun _ _ _ h=>h) (by rfl)
    ·intro wq _;go_simp;(try with_reducible rfl)
    (try simp only [zp,za,z0,zs]);apply tp 5 21 rfl (by kernel_rfl) (fun _ _ _ h=>h) (by rfl)
    ·intro wq _;go_simp;(try with_reducible rfl)
    (try simp only [zp,za,z0,zs]);refine aD (i:=6) (o:=⟨some 6,_,_,_,_,_⟩) (by kernel_rfl) rfl (fun K hK=>?_);go_simp;(try dsimp only);refine hK.out _ _ ?_ (fun aX=>?_);exact HC.out _ (JS.out.alloc JS.out.size _);clear hK K;(try simp only [zp,za,z0,zs]);apply tp 7 5 rfl (by kernel_rfl) (fun _ _ _ h=>h) (by rfl)
    ·intro wq _;go_simp;(try with_reducible rfl)
    (try simp only [zp,za,z0,zs]);refine aA (i:=8) (by kernel_rfl) rfl (by kernel_rfl) (fun K hK=>?_);go_simp;(try dsimp only);refine hK.out _ _ ?_;clear hK K;refine aI (by kernel_rfl) ?_ _;go_simp;go_wp2_with fail;go_meet;exact⟨Ba,ma,qa,ga.heap.size,rfl,rfl,UL.out.below ((Below.refl _ _).alloc (Nat.le_refl _) _) |>.more (by simp),aj.new _ _ _,JS.out.alloc JS.out.size _⟩
   go_simp;(try dsimp only);refine hK.out _ _ ?_ (fun aX=>?_);exact HC.out _ (BZ.out.alloc BZ.out.size _);clear hK K;(try simp only [zp,za,z0,zs]);refine aD (i:=2) (o:=⟨some 19,_,_,_,_,_⟩) (by kernel_rfl) rfl (fun K hK=>?_);have Us:=qqh (aj.new va 38 #[.int .i64 0,.int .i64 0]);go_simp;go_at_call 8;refine(ep.out (va.alloc (.cells #[.int .i64 0,.int .i64 0] 38)) (BZ.out.alloc BZ.out.size _) Da ka hka (WE.out.below ((Below.refl _ _).alloc (Nat.le_refl _) _) |>.more (by simp))).mono ?_;rintro e ga ⟨⟨Ba,ma,qa,rfl,pK⟩,hba⟩;have JS:=qqh (show Below W2.heap.size W2 ga from((BZ.out.alloc BZ.out.size _)).trans (hba.mono ((BZ.out.alloc BZ.out.size _)).size));have UL:=qqh pK.of;have Dr:=qqh (Us.out.below hba Us.out.lt);clear pK hba;(try dsimp only);refine hK.out _ _ ?_ (fun aX=>?_);exact HC.out _ JS.out;clear hK K;(try simp only [zp,za,z0,zs]);apply tp 3 16 rfl (by kernel_rfl) (fun _ _ _ h=>h) (by rfl)
   ·intro wq _;go_simp;(try with_reducible rfl)
   (try simp only [zp,za,z0,zs]);apply tp 4 20 rfl (by kernel_rfl) (fun _ _ _ h=>h) (by rfl)
   ·intro wq _;go_simp;(try with_reducible rfl)
   (try simp only [zp,za,z0,zs]);apply tp 5 21 rfl (by kernel_rfl) (fun _ _ _ h=>h) (by rfl)
   ·intro wq _;go_simp;(try with_reducible rfl)
   (try simp only [zp,za,z0,zs]);apply tp 7 5 rfl (by kernel_rfl) (fun _ _ _ h=>h) (by rfl)
   ·intro wq _;go_simp;(try with_reducible rfl)
   (try simp only [zp,za,z0,zs]);refine aA (i:=8) (by kernel_rfl) rfl (by kernel_rfl) (fun K hK=>?_);have z0:=Dr.out.frozen 0;have z1:=(Dr.out.put 0 (.int .i64 0)).frozen 1;have z2:=Dr.out.cell 0;have z3:=(Dr.out.put 0 (.int .i64 0)).cell 1;go_simp;(try dsimp only);refine hK.out _ _ ?_;clear hK K;refine aI (by kernel_rfl) ?_ _;go_simp;go_wp2_with fail;go_meet;rw [qu Dr.out rfl,qu Dr.out rfl];exact⟨Ba,ma,qa,va.heap.size,rfl,rfl,UL.out,Dr.out,JS.out⟩
  go_simp;(try dsimp only);refine hK.out _ _ ?_ (fun aX=>?_);exact HC.out _ ((az (Below.refl W2.heap.size W2)).alloc (Nat.le_refl _) _);clear hK K;(try simp only [zp,za,z0,zs]);refine aD (i:=1) (o:=⟨some 18,_,_,_,_,_⟩) (by kernel_rfl) rfl (fun K hK=>?_);go_simp;go_at_call 7;refine(OA.out (W2.drew.alloc (.cells #[.int .i64 0,.int .i64 0] 38))).mono ?_;rintro e va ⟨ua,rfl,Qs,hda⟩;obtain⟨Da,ka,rfl,hka⟩:=aJ Qs;have BZ:=qqh (show Below W2.heap.size W2 va from((az (Below.refl W2.heap.size W2)).alloc (Nat.le_refl _) _).trans (hda.mono ((az (Below.refl W2.heap.size W2)).alloc (Nat.le_refl _) _).size));have WE:=qqh (Rd.cj Qs);have Us:=qqh (show aj va W2.heap.size 38 #[.int .i64 0,.int .i64 0] from(aj.new W2.drew 38 #[.int .i64 0,.int .i64 0]).below hda (aj.new W2.drew 38 #[.int .i64 0,.int .i64 0]).lt);clear Qs hda;(try dsimp only);refine hK.out _ _ ?_ (fun aX=>?_);exact HC.out _ BZ.out;clear hK K;(try simp only [zp,za,z0,zs]);refine aD (i:=2) (o:=⟨some 19,_,_,_,_,_⟩) (by kernel_rfl) rfl (fun K hK=>?_);go_simp;go_at_call 8;refine(ep.out va BZ.out Da ka hka WE.out).mono ?_;rintro e ga ⟨⟨Ba,ma,qa,rfl,pK⟩,hba⟩;have JS:=qqh (show Below W2.heap.size W2 ga from(BZ.out).trans (hba.mono (BZ.out).size));have UL:=qqh pK.of;have Dr:=qqh (Us.out.below hba Us.out.lt);clear pK hba;(try dsimp only);refine hK.out _ _ ?_ (fun aX=>?_);exact HC.out _ JS.out;clear hK K;(try simp only [zp,za,z0,zs]);apply tp 3 16 rfl (by kernel_rfl) (fun _ _ _ h=>h) (by rfl)
  ·intro wq _;go_simp;(try with_reducible rfl)
  (try simp only [zp,za,z0,zs]);apply tp 4 20 rfl (by kernel_rfl) (fun _ _ _ h=>h) (by rfl)
  ·intro wq _;go_simp;(try with_reducible rfl)
  (try simp only [zp,za,z0,zs]);apply tp 5 21 rfl (by kernel_rfl) (fun _ _ _ h=>h) (by rfl)
  ·intro wq _;go_simp;(try with_reducible rfl)
  (try simp only [zp,za,z0,zs]);apply tp 7 5 rfl (by kernel_rfl) (fun _ _ _ h=>h) (by rfl)
  ·intro wq _;go_simp;(try with_reducible rfl)
  (try simp only [zp,za,z0,zs]);refine aA (i:=8) (by kernel_rfl) rfl (by kernel_rfl) (fun K hK=>?_);have z0:=Dr.out.frozen 0;have z1:=(Dr.out.put 0 (.int .i64 0)).frozen 1;have z2:=Dr.out.cell 0;have z3:=(Dr.out.put 0 (.int .i64 0)).cell 1;go_simp;(try dsimp only);refine hK.out _ _ ?_;clear hK K;refine aI (by kernel_rfl) ?_ _;go_simp;go_wp2_with fail;go_meet;rw [qu Dr.out rfl,qu Dr.out rfl];exact⟨Ba,ma,qa,W2.heap.size,rfl,rfl,UL.out,Dr.out,JS.out⟩
 obtain⟨D,m,d,G,rfl,rfl,hrd,Ns,hbc⟩:=hcut;have hm:m=4:=hrd.len.symm;subst hm;obtain⟨b,off,rfl,eD,C6⟩:=hrd.2 (by decide);have su:(convert 33 9 (.slice (some ⟨b,off,none⟩) 4 d)).run Tryz.prog wc=.ok (.string ⟨#[89,88,66,195,137]⟩) wc:=by
  rw [run_convert_runes (P:=Tryz.prog) wc 33 9 21 ⟨b,off,none⟩ 4 d [89,88,66,201] (by simp) Tryz.underlying33 Tryz.underlying21 Tryz.underlying9 ?_]
  ·rw [show([89,88,66,201]:List Int).take 4 = [89,88,66,201] from rfl,L7]
  intro j hj;rw [gX];refine C6 j _ ?_;rw [eC,List.getElem?_eq_getElem hj,List.getD_eq_getElem?_getD,List.getElem?_eq_getElem hj];rfl
 have R7:=qqh (bt.out.trans (hbc.mono bt.out.size));have g0:=Ns.cell 0;have g1:=(aj.below eT.out hbc eT.out.lt).cell 0;have g2:=(aj.below lg.out hbc lg.out.lt).cell 0;clear hrd Ns hbc C6 s0 s1 s2 HC ep lT iz lg eT OA;go_wp2_with fail;go_ret;exact⟨rfl,R7.out⟩
end Go.Proofs.YtkggjgeihhialaaGreatDoor
