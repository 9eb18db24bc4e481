/- RdFileFr + RdFile -/
import Derived.Test.YthgkedoildcbcaaGreatDoorZt44
import Derived.Test.YthgkedoildcbcaaGreatDoorZt43
import Derived.Test.YthgkedoildcbcaaGreatDoorZt1
import Derived.Deep.CutRange
set_option maxHeartbeats 12800000
set_option maxRecDepth 100000
namespace Go.Proofs.YthgkedoildcbcaaGreatDoor
open Go.RowKit
theorem AE (F R:Nat) (x p:Int) (v:Value) (tF tR:TypeId) (u:FrameMode) (w:World) (hF:ai w F tF #[.int .i64 x,.int .i64 p]) (hR:ai w R tR #[v]) :
    CallsD Tryz.prog 30 #[.pointer (some ⟨F,0,none⟩),.pointer (some ⟨R,0,none⟩)] u w fun e u' w'=>u'=u∧e=.returned (.tuple #[])∧w'=if x=0 then w else w.setCell ⟨R,0,none⟩ (.slice none 0 0):=by
 have f0:=hF.cell 0;have r0:=hR.frozen 0;have r1:=hR.cell 0;clear hF hR;by_cases hx:x=0
 ·subst hx;go_enter_d Tryz.func30,Tryz.ntmps30;go_wp2_with fail;go_end0;exact⟨rfl,rfl⟩
 have hx2:(x != 0)=true:=(by simp;exact hx);go_enter_d Tryz.func30,Tryz.ntmps30;go_wp2_with fail;go_end0;exact⟨rfl,rfl⟩
def uE (F R:Nat):List Deferred:=[{ target:=.fn (.func 31) #[],args:=#[.pointer (some ⟨F,0,none⟩)] },{ target:=.fn (.func 30) #[.pointer (some ⟨F,0,none⟩),.pointer (some ⟨R,0,none⟩)],args:=#[] }]
theorem zw (tmps:Array Value) (F R:Nat) (p:Int) (v:Value) (tF tR:TypeId) (W:World) (Q:Ending→World→Prop) (h2:tmps[2]? = some (.pointer (some ⟨R,0,none⟩))) (h3:tmps[3]? = some (.pointer (some ⟨F,0,none⟩)))
    (hF:ai W F tF #[.int .i64 0,.int .i64 p]) (hR:ai W R tR #[v]) (hQ:Q (.returned (.tuple #[v,.agg #[.int .i64 0,.int .i64 p]])) W):Leaves Tryz.prog Tryz.f13 tmps Q (uE F R) .returning W:=by
 have y0:=hR.cell 0;have y1:=hF.cell 0;have y2:=hF.cell 1;refine leaves_cons (f:=31) (args:=#[.pointer (some ⟨F,0,none⟩)]) (by simp) (by simp [go_sem]) ?_;refine(C1 ⟨F,0,none⟩ W).mono ?_;rintro e u' w'' ⟨rfl,rfl,rfl⟩;show Leaves Tryz.prog Tryz.f13 tmps Q _ (settle .returning) w'';simp only [settle];refine leaves_cons (f:=30) (args:=#[.pointer (some ⟨F,0,none⟩),.pointer (some ⟨R,0,none⟩)]) (by simp) (by simp [go_sem]) ?_;refine(AE F R 0 p v tF tR .returning w'' hF hR).mono ?_;rintro e u' w3 ⟨rfl,rfl,hw⟩;rw [if_pos rfl]at hw;subst hw;refine⟨_,?_,hQ⟩;simp [results,Tryz.results13,go_sem,h2,h3,y0,y1,y2]
theorem ia (tmps:Array Value) (F R B:Nat) (x p a b:Int) (v:Value) (tF tR:TypeId) (W:World) (Q:Ending→World→Prop) (h2:tmps[2]? = some (.pointer (some ⟨R,0,none⟩))) (h3:tmps[3]? = some (.pointer (some ⟨F,0,none⟩)))
    (hF:ai W F tF #[.int .i64 a,.int .i64 b]) (hR:ai W R tR #[v]) (hne:R≠F) (hBF:B≤F) (hBR:B≤R) (hBW:B≤W.heap.size) (hx:x≠0) (hQ:∀ W2,Below B W W2→Q (.returned (.tuple #[.slice none 0 0,.agg #[.int .i64 x,.int .i64 p]])) W2) :
    Leaves Tryz.prog Tryz.f13 tmps Q (uE F R) (.panicking [{ v:=.iface 124 (.agg #[.int .i64 x,.int .i64 p]),recovered:=false }]) W:=by
 refine leaves_cons (f:=31) (args:=#[.pointer (some ⟨F,0,none⟩)]) (by simp) (by simp [go_sem]) ?_;refine(zN F x p a b tF [] W hF).mono ?_;rintro e u' w'' ⟨rfl,rfl,hB2,nN⟩;have TS:ai w'' R tR #[v]:=(nN.2.2.2.2 R hR.lt hne).trans hR;show Leaves Tryz.prog Tryz.f13 tmps Q _ (settle (.panicking [{ v:=.iface 124 (.agg #[.int .i64 x,.int .i64 p]),recovered:=true }])) w'';simp only [settle,List.dropWhile];refine leaves_cons (f:=30) (args:=#[.pointer (some ⟨F,0,none⟩),.pointer (some ⟨R,0,none⟩)]) (by simp) (by simp [go_sem]) ?_;refine(AE F R x p v tF tR .returning w'' hB2 TS).mono ?_;rintro e u' w3 ⟨rfl,rfl,hw⟩;rw [if_neg hx]at hw;subst hw;have bN:=bP.set w'' R 0 (.slice none 0 0);have hF3:ai (w''.setCell ⟨R,0,none⟩ (.slice none 0 0)) F tF #[.int .i64 x,.int .i64 p]:=(bN.2.2.2.2 F hB2.lt (Ne.symm hne)).trans hB2;have hR3:ai (w''.setCell ⟨R,0,none⟩ (.slice none 0 0)) R tR #[.slice none 0 0]:=TS.put 0 _;have y0:=hR3.cell 0;have y1:=hF3.cell 0;have y2:=hF3.cell 1;have hQ2:=hQ _ ((nN.to hBW hBF).trans (bN.to (Nat.le_trans hBW nN.1) hBR));generalize w''.setCell ⟨R,0,none⟩ (.slice none 0 0)=w9 at *;refine⟨_,?_,hQ2⟩;simp [results,Tryz.results13,go_sem,h2,h3,y0,y1,y2]
def gZ (lo C:Nat) (w:World) (v:Value) (l:List aF):Prop:=dH (eO w (xC lo C v)) 97 16 w lo v l
theorem gZ.nil (lo C:Nat) (w:World):gZ lo C w (.slice none 0 0) []:=dH.nil _ _
theorem gZ.form {lo C:Nat} {w:World} {v:Value} {l:List aF} (h:gZ lo C w v l):∃ A c,v=.slice A l.length c∧l.length≤c:=dH.form h
theorem gZ.but {lo C:Nat} {w w':World} {v:Value} {l:List aF} (h:gZ lo C w v l) (hb:bP w C w') (hC:C<lo):gZ lo C w' v l :=
  dH.kept (fun _ _ ho=>G6 ho hb hC) (fun _ _=>eO.keep (hb.keeps (fun _ h=>h.2.1) (fun _ h _=>h))) h
theorem gZ.below {lo C:Nat} {w w':World} {v:Value} {l:List aF} (h:gZ lo C w v l) (hb:Below w.heap.size w w'):gZ lo C w' v l :=
  dH.kept (fun _ _ ho=>dy ho hb) (fun _ _=>eO.keep (af.any hb)) h
theorem gZ.put {lo C:Nat} {w:World} {v:Value} {l:List aF} (h:gZ lo C w v l) {g:Nat} (hg:g<lo) (i:Nat) (u:Value):gZ lo C (w.setCell ⟨g,i,none⟩ u) v l :=
  dH.kept (fun _ _ ho=>rD ho hg) (fun _ _=>eO.keep (af.setCell (p:=⟨g,i,none⟩) u (fun b hb=>by have:=hb.1;show b≠g;omega) (fun _ h _=>h))) h
theorem gZ.apart {lo C:Nat} {w:World} {v:Value} {l:List aF} (h:gZ lo C w v l) {b:Nat} (hb:w.heap.size≤b):v.ownBlock≠some b:=by
 obtain⟨css,h1,h2,h3,h4⟩:=h;intro e;have:=(aQ h4 e).2;omega
theorem gZ.push {lo C:Nat} {w:World} {v:Value} {l:List aF} (h:gZ lo C w v l) (a:aF) {cs:List Value} (ha:eO w (xC lo C v) a cs) :
    ∃ ys,w.ownsRow lo 97 16 v l.length ys∧∀ v' w',aR lo 97 16 v w (l.length+1) (ys++cs) v' w'→gZ lo C w' v' (l++[a]):=by
 obtain⟨css,h1,h2,h3,h4⟩:=h;refine⟨css.flatten,h4,fun v' w' au=>?_⟩;have hk:af w (xC lo C v) w' (xC lo C v'):=BJ au;exact dH.push h1 h2 h3 (fun _ _=>eO.keep hk) (ha.keep hk) ha.one.1 au
theorem gZ.done {lo C:Nat} {w:World} {A:Option Addr} {c:Nat} {l:List aF} (h:gZ lo C w (.slice A l.length c) l):gT w (fun b=>lo≤b) A l.length l:=by
 have hh:=h;obtain⟨css,h1,h2,h3,h4⟩:=hh;exact dH.done h (fun _ _=>eO.keep (af.refl (fun b hb=>hb.1))) (fun b hb=>(aQ h4 hb).1)
structure vM (w:World) (C:Nat) (A:Option Addr) (n c:Nat) (L:List Int) (wr:World) (j:Nat) (v:Value) (acc:List aF):Prop where
  cur:ax wr C A n c L j
  row:bW wr (fun b=>w.heap.size+2≤b∧b<C) 1 A n (runeCells L)
  res:ai wr w.heap.size 48 #[v]
  flt:ai wr (w.heap.size+1) 32 #[.int .i64 0,.int .i64 0]
  own:gZ (C+1) C wr v acc
  below:Below w.heap.size w wr
  hC:w.heap.size+2≤C
section
variable {w wr w' : World} {C : Nat} {A : Option Addr} {n c : Nat} {L : List Int} {j j' : Nat} {v : Value} {acc : List aF}
theorem vM.step (h:vM w C A n c L wr j v acc) (hc:ax w' C A n c L j') (hb:bP wr C w'):vM w C A n c L w' j' v acc:=by
 have hC:=h.hC;exact⟨hc,h.row.keep (hb.keeps (fun b h=>by have:=h.2;omega) (fun _ h _=>h)),(hb.2.2.2.2 _ h.res.lt (by omega)).trans h.res,(hb.2.2.2.2 _ h.flt.lt (by omega)).trans h.flt,h.own.but hb (Nat.lt_succ_self _),h.below.trans (hb.to h.below.size (by omega)),hC⟩
theorem vM.on (h:vM w C A n c L wr j v acc) (hb:Below wr.heap.size wr w'):vM w C A n c L w' j v acc :=
  ⟨h.cur.below hb,h.row.keep (af.any hb),h.res.below hb h.res.lt,h.flt.below hb h.flt.lt,h.own.below hb,h.below.trans (hb.mono h.below.size),h.hC⟩
theorem vM.push (h:vM w C A n c L wr j v acc) {v':Value} {w9:World} {m:Nat} {ys zs:List Value} {l:List aF} (hown:wr.ownsRow (C+1) 97 16 v m ys) (au:aR (C+1) 97 16 v wr (m+1) zs v' w9) (hn:gZ (C+1) C w9 v' l) (hsz:C+1≤wr.heap.size) :
    vM w C A n c L (w9.setCell ⟨w.heap.size,0,none⟩ v') j v' l:=by
 have hC:=h.hC;have bR:Below (C+1) wr w9:=au.below hsz hown;have hcb:ax w9 C A n c L j:=⟨h.cur.blk.same (bR.block C (Nat.lt_succ_self _)),((h.row.keep (X':=fun b=>w.heap.size+2≤b∧b<C) (fun b hX hl=>⟨bR.block b (by omega),hX,Nat.lt_of_lt_of_le hl bR.size⟩)).lift (fun b h=>by have:=h.2;omega)),h.cur.size,h.cur.le,h.cur.cap⟩;have XE:bW w9 (fun b=>w.heap.size+2≤b∧b<C) 1 A n (runeCells L):=h.row.keep (fun b hX hl=>⟨bR.block b (by omega),hX,Nat.lt_of_lt_of_le hl bR.size⟩);have VN:ai w9 w.heap.size 48 #[v]:=(bR.block _ (by omega)).trans h.res;have Qd:ai w9 (w.heap.size+1) 32 #[.int .i64 0,.int .i64 0]:=(bR.block _ (by omega)).trans h.flt;have Q3:Below w.heap.size w w9:=h.below.trans (bR.mono (by omega));have hb:=bP.set w9 w.heap.size 0 v';have hrow:bW (w9.setCell ⟨w.heap.size,0,none⟩ v') (fun b=>w.heap.size+2≤b∧b<C) 1 A n (runeCells L):=XE.keep (hb.keeps (fun b h=>by have:=h.1;omega) (fun _ h _=>h));exact⟨⟨hcb.blk.same (hb.2.2.2.2 C hcb.blk.lt (by omega)),hrow.lift (fun b h=>by have:=h.2;omega),hcb.size,hcb.le,hcb.cap⟩,hrow,VN.put 0 v',(hb.2.2.2.2 _ Qd.lt (by omega)).trans Qd,hn.put (by omega) 0 v',Q3.trans (hb.to Q3.size (Nat.le_refl _)),hC⟩
end
def tT (w:World) (r:List aF × (Int × Int)) (e:Ending) (w':World):Prop :=
  (∃ A n c,e=.returned (.tuple #[.slice A n c,.agg #[.int .i64 r.2.1,.int .i64 r.2.2]])∧gT w' (fun b=>w.heap.size≤b) A n r.1∧n≤c)∧Below w.heap.size w w'
theorem gT.nil (w:World) (X:Nat→Prop):gT w X none 0 []:=⟨[],rfl,rfl,by simp,by simp,bW.nil 16⟩
theorem JP {L:List Int} {f i:Nat} {l:List aF} (h:pk L (az L i)<0):gI L (f+1) i l=.ok l:=by rw [gI,if_pos h]
theorem F0 {L:List Int} {f i:Nat} {l:List aF} (h:¬ pk L (az L i)<0) (h2:l.length=200):gI L (f+1) i l=.error (5,az L i):=by rw [gI,if_neg h,if_pos h2]
theorem Fv {L:List Int} {f i:Nat} {l:List aF} {e:Int × Nat} (h:¬ pk L (az L i)<0) (h2:¬ l.length=200) (h3:jr L (az L i)=.error e):gI L (f+1) i l=.error e:=by rw [gI,if_neg h,if_neg h2,h3]
theorem Gg {L:List Int} {f i j:Nat} {l:List aF} {p:aF} {e:Int × Nat} (h:¬ pk L (az L i)<0) (h2:¬ l.length=200) (h3:jr L (az L i)=.ok (p,j)) (h4:aU L (az L j) 59=.error e):gI L (f+1) i l=.error e:=by rw [gI,if_neg h,if_neg h2,h3];simp only;rw [h4]
theorem Fc {L:List Int} {f i j k:Nat} {l:List aF} {p:aF} (h:¬ pk L (az L i)<0) (h2:¬ l.length=200) (h3:jr L (az L i)=.ok (p,j)) (h4:aU L (az L j) 59=.ok k):gI L (f+1) i l=gI L f k (l++[p]):=by rw [gI,if_neg h,if_neg h2,h3];simp only;rw [h4]
theorem pz {w:World} {X:Nat→Prop} {p:aF} {cs:List Value} (h:eO w X p cs):∃ v0 v1 v2 v3 v4 v5 v6 v7 v8 v9 v10 v11 v12 wM wF wm,cs = [v0,v1,v2,v3,v4,v5,v6,v7,v8,v9,v10,v11,v12,wM,wF,wm]:=by
 obtain⟨A',n',c',L1,a1,x1,L2,a2,x2,L3,a3,x3,R1,b1,y1,R2,b2,y2,R3,b3,y3,rfl⟩:=h.form;exact⟨_,_,_,_,_,_,_,_,_,_,_,_,_,_,_,_,rfl⟩
theorem xx (s:ByteArray) (w:World) (hs:s.size≤1099511627776) :
    Calls Tryz.prog 13 #[.string s] w (tT w (ku (bJ s 0))):=by
  obtain⟨i0,KO,u0,z1,z2⟩:=info_parts IG
  have hmf:∀ (fn:Fn) (first cap:Array Value) (w:World),(Instr.makeFunc fn first cap).run Tryz.prog w=.ok (.func fn first cap) w:=fun _ _ _ _=>rfl
  have HD:=qqh (fun(W:World)=>show Calls Tryz.prog 7 #[.string s] W fun e w'=>∃ v,e=.returned v∧sP w' W.heap.size v (bJ s 0)∧Below W.heap.size W w' from qZ s W hs)
  have HV:=qqh (show gl (bJ s 0) from mG s)
  have hLs:(bJ s 0).length≤s.size:=by
    unfold bJ
    rw [List.length_map]
    have:=nG s s.size 0 (by omega)
    omega
  generalize bJ s 0=L at *
  have dO:=qqh (show Below w.heap.size w ((w.alloc (.cells #[.slice none 0 0] 48)).alloc (.cells #[.int .i64 0,.int .i64 0] 32)) from((Below.refl _ _).alloc (Nat.le_refl _) _).alloc (by simp) _)
  have fZ:=qqh (show ai ((w.alloc (.cells #[.slice none 0 0] 48)).alloc (.cells #[.int .i64 0,.int .i64 0] 32)) w.heap.size 48 #[.slice none 0 0] from(ai.new w _ _).alloc _)
  have sY:=qqh (show ai ((w.alloc (.cells #[.slice none 0 0] 48)).alloc (.cells #[.int .i64 0,.int .i64 0] 32)) (w.heap.size+1) 32 #[.int .i64 0,.int .i64 0] from by
    have:=ai.new (w.alloc (.cells #[.slice none 0 0] 48)) 32 #[.int .i64 0,.int .i64 0]
    simpa using this)
  have Xu:=qqh (show w.heap.size+2≤((w.alloc (.cells #[.slice none 0 0] 48)).alloc (.cells #[.int .i64 0,.int .i64 0] 32)).heap.size by simp)
  go_enter_defers Tryz.func13,Tryz.ntmps13
  go_wp2_with fail
  refine(HD.out _).mono ?_
  rintro e w1 ⟨v,rfl,ho,hb⟩
  have b7:=qqh (dO.out.trans (hb.mono dO.out.size))
  have iZ:=qqh (fZ.out.below hb fZ.out.lt)
  have iU:=qqh (sY.out.below hb sY.out.lt)
  have xK:w.heap.size+2≤w1.heap.size:=Nat.le_trans Xu.out hb.size
  obtain⟨n,hn⟩:∃ n,L.length=n:=⟨_,rfl⟩
  unfold sP at ho
  rw [hn]at ho
  have aaa:n≤4611686018427387904:=by omega
  obtain⟨A,c,rfl,hnc⟩:=aI ho
  have hrow:bW (w1.alloc (.cells #[.slice A n c,.int .i64 0] 90)) (fun b=>w.heap.size+2≤b∧b<w1.heap.size) 1 A n (runeCells L) :=
    (bW.cy (X:=fun b=>w.heap.size+2≤b∧b<w1.heap.size) ho (fun b hb=>⟨Nat.le_trans Xu.out (aQ ho hb).1,(aQ ho hb).2⟩)).keep (af.alloc _ (fun b hb _=>hb))
  have ov:=qqh (show vM w w1.heap.size A n c L (w1.alloc (.cells #[.slice A n c,.int .i64 0] 90)) 0 (.slice none 0 0) [] from
    ⟨⟨⟨_,ai.new _ _ _⟩,hrow.lift (fun b h=>by have:=h.2;omega),aaa,Nat.zero_le _,hnc⟩,hrow,iZ.out.alloc _,iU.out.alloc _,gZ.nil _ _ _,b7.out.alloc b7.out.size _,xK⟩)
  have hC:w1.heap.size+1≤(w1.alloc (.cells #[.slice A n c,.int .i64 0] 90)).heap.size:=by simp
  have vn:=qqh hn
  clear ho hb HD fZ sY dO Xu hrow b7 iZ iU
  go_upto_region 4 with fail
  generalize w1.alloc (.cells #[.slice A n c,.int .i64 0] 90)=w2 at *
  generalize w1.heap.size=C at *
  have c0:=ov.out.cur.blk.cell 0
  by_cases ym:16000<n
  · have nw:=qqh (uP (L:=L) (by rw [hn];exact ym))
    have EU:=qqh (fun(W:World)=>ck 4 0 W)
    clear hn
    go_wp2_with fail
    refine(EU.out _).mono ?_
    rintro e w3 ⟨rfl,rfl⟩
    go_wp2_with fail
    refine ia _ (w.heap.size+1) w.heap.size w.heap.size 4 0 0 0 _ _ _ _ _ rfl rfl ov.out.flt ov.out.res (by omega) (by omega) (Nat.le_refl _) ov.out.below.size (by decide) (fun W2 bu=>?_)
    rw [nw.out]
    exact⟨⟨none,0,0,rfl,gT.nil _ _,Nat.le_refl _⟩,ov.out.below.trans bu⟩
  · have HMU:=qqh (show ¬ 16000<L.length from fun h=>ym (by rw [← hn];exact h))
    have hn5:n≤16000:=by omega
    have iI:=qqh (fun(W:World) (m:Nat) (h:ax W C A n c L m)=>cW W C A n c L m h)
    have rI:=qqh (fun(W:World) (m:Nat) (h:ax W C A n c L m)=>jW W C A n c L m h)
    have J0:=qqh (fun(W:World) (m:Nat) (r:Int) (h:ax W C A n c L m) (hr:r ≠ -1)=>fK W C A n c L m r h hr)
    have qt:=qqh (fun(W:World) (m:Nat) (h:ax W C A n c L m)=>O3 W C A n c L m h HV.out (by omega))
    obtain⟨R0,UY⟩:∃ R0,gI L (L.length+1) 0 [] = R0:=⟨_,rfl⟩
    have lK:=qqh (fun(x:Int) (p:Nat) (h:R0=.error (x,p))=>show ku L=([],(x,(p:Int))) from ye HMU.out (UY.trans h))
    have HXN:=qqh (fun(x:Int) (p:Nat) (h:R0=.error (x,p))=>show x≠0 from J3 L _ _ _ _ _ (UY.trans h))
    have GH:=qqh (fun(l:List aF) (h:R0=.ok l)=>show ku L=(l,(0,0)) from Ay HMU.out (UY.trans h))
    have fZ:=qqh UY
    generalize ku L=RP at *
    have Zo:decide ((16000:Int)<(n:Int))=false:=decide_eq_false (by omega)
    clear hn UY ym
    go_wp2_with fail
    refine(rI.out _ 0 ov.out.cur).mono ?_
    rintro e w3 ⟨rfl,lU,bN⟩
    have eV:=qqh (ov.out.step lU bN)
    have hC3:C+1≤w3.heap.size:=Nat.le_trans hC bN.1
    clear lU bN c0 Zo hC
    go_wp2_with fail
    go_loopw [25] (fun _ wr=>∃ (f j:Nat) (acc:List aF) (v:Value),j≤n∧n+1≤f+j∧R0=gI L f j acc∧acc.length≤200∧vM w C A n c L wr (az L j) v acc∧C+1≤wr.heap.size) (fun _ wr=>n - (match wr.cell? ⟨C,1,none⟩with | some (.int _ j)=>j.toNat | _=>0))
    case atStart=>exact⟨L.length+1,0,[],_,Nat.zero_le _,by have:=vn.out;omega,fZ.out.symm,Nat.zero_le _,eV.out,hC3⟩
    case round=>
      obtain⟨f0,j,acc,v,hj,hf,aX,E6,hfl,hCr⟩:=hrel
      obtain⟨f,rfl⟩:∃ f,f0=f+1:=⟨f0 - 1,by omega⟩
      obtain⟨a,ha⟩:∃ a,az L j=a:=⟨_,rfl⟩
      have Pz:j≤a:=by rw [← ha];exact dG L j
      have dY:=qqh aX
      have HA:=qqh ha
      rw [ha]at hfl
      have ov:=qqh hfl
      have oc:=qqh (hfl.cur.blk.cell 1)
      have han:=hfl.cur.le
      obtain⟨Av,cv,rfl,td⟩:=hfl.own.form
      clear aX ha hfl
      go_wp2_with fail
      refine(iI.out _ a ov.out.cur).mono ?_
      rintro e w4 ⟨rfl,mP,hb4⟩
      have iK:=qqh (ov.out.step mP hb4)
      have hC4:C+1≤w4.heap.size:=Nat.le_trans hCr hb4.1
      clear mP hb4
      have r4:=iK.out.res.cell 0
      by_cases hneg:pk L a<0
      · have hg:decide ((0:Int)≤pk L a)=false:=decide_eq_false (by omega)
        have nw:=qqh (GH.out acc (dY.out.trans (JP (by rw [HA.out];exact hneg))))
        clear hneg
        go_wp2_with fail
        have r5:=iK.out.res.frozen 0
        have s4:=iK.out.flt.cell 0
        have s5:=iK.out.flt.cell 1
        have s6:=iK.out.flt.frozen 0
        have s7:=iK.out.flt.frozen 1
        go_region
        obtain⟨h9R,h9F,h9B⟩:=Bk (m:=1) iK.out.res iK.out.flt (show w.heap.size≠w.heap.size+1 by omega)
        obtain⟨h9b,h9k⟩:=h9B w.heap.size (Nat.le_refl _) (by omega) iK.out.below.size
        have hW:(((w4.setCell { block:=w.heap.size,off:=0 } (Value.slice Av acc.length cv)).setCell { block:=w.heap.size+1,off:=0 } (Value.int IntKind.i64 0)).setCell { block:=w.heap.size+1,off:=1 } (Value.int IntKind.i64 0)).drew=(((w4.drewN 1).setCell { block:=w.heap.size,off:=0 } (Value.slice Av acc.length cv)).setCell { block:=w.heap.size+1,off:=0 } (Value.int IntKind.i64 0)).setCell { block:=w.heap.size+1,off:=1 } (Value.int IntKind.i64 0):=rfl
        rw [hW]
        have hCC:=iK.out.hC
        have ko:=qqh h9R
        have Vw:=qqh h9F
        have NZ:=qqh (iK.out.below.trans h9b)
        have hpx:=iK.out.own.done
        have HKK:=qqh (show af w4 (fun b=>C+1≤b) _ (fun b=>w.heap.size≤b) from fun b hb hl=>let ⟨e,_,h2⟩:=h9k b ⟨by omega,by omega⟩ hl;⟨e,by omega,h2⟩)
        have wS:=qqh (hpx.keep HKK.out)
        clear h9R h9F h9B h9b h9k r4 r5 s4 s5 s6 s7 HKK hpx hW
        generalize (((w4.drewN 1).setCell { block:=w.heap.size,off:=0 } (Value.slice Av acc.length cv)).setCell { block:=w.heap.size+1,off:=0 } (Value.int IntKind.i64 0)).setCell { block:=w.heap.size+1,off:=1 } (Value.int IntKind.i64 0)=w9 at *
        go_wp2_with fail
        refine zw _ (w.heap.size+1) w.heap.size 0 (.slice Av acc.length cv) _ _ w9 _ rfl rfl Vw.out ko.out ?_
        rw [nw.out]
        exact⟨⟨Av,_,cv,rfl,wS.out,td⟩,NZ.out⟩
      · have hg:decide ((0:Int)≤pk L a)=true:=decide_eq_true (by omega)
        have HNG:=qqh hneg
        by_cases hm:acc.length=200
        · have HE:=qqh (dY.out.trans (F0 (by rw [HA.out];exact hneg) hm))
          have xU:=qqh (show R0=.error (5,a) by rw [HE.out,HA.out])
          have nw:=qqh (lK.out 5 a xU.out)
          have y4:=iK.out.cur.blk.cell 1
          rw [hm]at r4
          clear hneg
          go_wp2_with fail
          refine(ck 5 a _).mono ?_
          rintro e w5 ⟨rfl,rfl⟩
          go_wp2_with fail
          refine ia _ (w.heap.size+1) w.heap.size w.heap.size 5 a 0 0 _ _ _ _ _ rfl rfl iK.out.flt iK.out.res (by omega) (by omega) (Nat.le_refl _) iK.out.below.size (by decide) (fun W2 bu=>?_)
          rw [nw.out]
          exact⟨⟨none,0,0,rfl,gT.nil _ _,Nat.le_refl _⟩,iK.out.below.trans bu⟩
        · have hm2:¬(acc.length:Int)=200:=by omega
          have qm:((acc.length:Int) == 200)=false:=by rw [beq_eq_false_iff_ne];exact hm2
          have HM:=qqh hm
          clear hm hm2
          generalize F6:acc.length=al at *
          cases hp:jr L a with
          | error e0=>
            obtain⟨x,p⟩:=e0
            have HE:=qqh (dY.out.trans (Fv (by rw [HA.out];exact hneg) (by rw [F6];exact HM.out) (by rw [HA.out];exact hp)))
            have nw:=qqh (lK.out x p HE.out)
            have hx:=HXN.out x p HE.out
            have EY:=qqh (fun(W:World) (h:ax W C A n c L a)=>show Calls Tryz.prog 35 #[.pointer (some ⟨C,0,none⟩)] W (tJ W C A n c L (.error (x,p))) by have:=qt.out W a h;rwa [hp]at this)
            clear hp hneg
            go_upto_region 11 with fail
            have jl:=qqh (iK.out.on (aD (Below.refl w4.heap.size w4)))
            have hCC:=iK.out.hC
            -- {err
            refine ay (S:=fun _=>True) [] (by kernel_rfl) trivial (fun _=>?_)
            refine gi (i:=0) (j:=1) (o:=⟨some 37,_,_,_,_,_⟩) (o2:=⟨some 38,_,_,_,_,_⟩) (by kernel_rfl) rfl rfl (fun K hK=>?_) (fun K hK=>?_)
            · go_simp
              try dsimp only
              refine hK.out _ _ trivial (fun _=>?_)
              clear hK K
              try simp only [zp,za,z0,zs]
              refine aG (i:=1) (o:=⟨some 38,_,_,_,_,_⟩) (by kernel_rfl) rfl (fun K hK=>?_)
              go_simp
              try dsimp only
              refine hK.out _ _ trivial (fun _=>?_)
              clear hK K
              try simp only [zp,za,z0,zs]
              refine aG (i:=2) (o:=⟨some 39,_,_,_,_,_⟩) (by kernel_rfl) rfl (fun K hK=>?_)
              go_simp
              go_at_call 35
              refine(EY.out _ jl.out.cur).mono ?_
              rintro e w5 ⟨he,ez⟩
              unfold aY at he
              subst he
              have FZ:=(ez.2.2.2.2 _ jl.out.res.lt (by omega)).trans jl.out.res
              have Mc:=(ez.2.2.2.2 _ jl.out.flt.lt (by omega)).trans jl.out.flt
              have Cq:=qqh FZ
              have kZ:=qqh Mc
              have dQ:=qqh (jl.out.below.trans (ez.to jl.out.below.size (by omega)))
              clear ez FZ Mc
              go_wp2_with fail
              refine ia _ (w.heap.size+1) w.heap.size w.heap.size x p 0 0 _ _ _ _ _ rfl rfl kZ.out Cq.out (by omega) (by omega) (Nat.le_refl _) dQ.out.size hx (fun W2 bu=>?_)
              rw [nw.out]
              exact⟨⟨none,0,0,rfl,gT.nil _ _,Nat.le_refl _⟩,dQ.out.trans bu⟩
            · go_simp
              try dsimp only
              refine hK.out _ _ trivial (fun _=>?_)
              clear hK K
              try simp only [zp,za,z0,zs]
              refine gi (i:=0) (j:=2) (o:=⟨some 37,_,_,_,_,_⟩) (o2:=⟨some 39,_,_,_,_,_⟩) (by kernel_rfl) rfl rfl (fun K hK=>?_) (fun K hK=>?_)
              · go_simp
                try dsimp only
                refine hK.out _ _ trivial (fun _=>?_)
                clear hK K
                try simp only [zp,za,z0,zs]
                refine aG (i:=2) (o:=⟨some 39,_,_,_,_,_⟩) (by kernel_rfl) rfl (fun K hK=>?_)
                go_simp
                go_at_call 35
                refine(EY.out _ jl.out.cur).mono ?_
                rintro e w5 ⟨he,ez⟩
                unfold aY at he
                subst he
                have FZ:=(ez.2.2.2.2 _ jl.out.res.lt (by omega)).trans jl.out.res
                have Mc:=(ez.2.2.2.2 _ jl.out.flt.lt (by omega)).trans jl.out.flt
                have Cq:=qqh FZ
                have kZ:=qqh Mc
                have dQ:=qqh (jl.out.below.trans (ez.to jl.out.below.size (by omega)))
                clear ez FZ Mc
                go_wp2_with fail
                refine ia _ (w.heap.size+1) w.heap.size w.heap.size x p 0 0 _ _ _ _ _ rfl rfl kZ.out Cq.out (by omega) (by omega) (Nat.le_refl _) dQ.out.size hx (fun W2 bu=>?_)
                rw [nw.out]
                exact⟨⟨none,0,0,rfl,gT.nil _ _,Nat.le_refl _⟩,dQ.out.trans bu⟩
              · go_simp
                go_at_call 35
                refine(EY.out _ jl.out.cur).mono ?_
                rintro e w5 ⟨he,ez⟩
                unfold aY at he
                subst he
                have FZ:=(ez.2.2.2.2 _ jl.out.res.lt (by omega)).trans jl.out.res
                have Mc:=(ez.2.2.2.2 _ jl.out.flt.lt (by omega)).trans jl.out.flt
                have Cq:=qqh FZ
                have kZ:=qqh Mc
                have dQ:=qqh (jl.out.below.trans (ez.to jl.out.below.size (by omega)))
                clear ez FZ Mc
                go_wp2_with fail
                refine ia _ (w.heap.size+1) w.heap.size w.heap.size x p 0 0 _ _ _ _ _ rfl rfl kZ.out Cq.out (by omega) (by omega) (Nat.le_refl _) dQ.out.size hx (fun W2 bu=>?_)
                rw [nw.out]
                exact⟨⟨none,0,0,rfl,gT.nil _ _,Nat.le_refl _⟩,dQ.out.trans bu⟩
            -- err}
          | ok q=>
            obtain⟨p,j2⟩:=q
            have EY:=qqh (fun(W:World) (h:ax W C A n c L a)=>show Calls Tryz.prog 35 #[.pointer (some ⟨C,0,none⟩)] W (tJ W C A n c L (.ok (p,j2))) by have:=qt.out W a h;rwa [hp]at this)
            have HP:=qqh hp
            have jl:=qqh (iK.out.on (aD (Below.refl w4.heap.size w4)))
            have hCC:=iK.out.hC
            have N7:=qqh (fun(b:Nat) (hb:w4.heap.size≤b)=>iK.out.own.apart hb)
            have Uy:=qqh (show(acc++[p]).length=al+1 by rw [List.length_append,F6];rfl)
            clear hp hneg
            go_upto_region 11 with fail
            go_cut [] from 21 to 47 (fun wx=>∃ v':Value,vM w C A n c L wx j2 v' (acc++[p])∧C+1≤wx.heap.size)
            case first=>
              -- {ok
              refine ay (S:=fun _=>True) [] (by kernel_rfl) trivial (fun _=>?_)
              refine gi (i:=0) (j:=1) (o:=⟨some 37,_,_,_,_,_⟩) (o2:=⟨some 38,_,_,_,_,_⟩) (by kernel_rfl) rfl rfl (fun K hK=>?_) (fun K hK=>?_)
              · go_simp
                try dsimp only
                refine hK.out _ _ trivial (fun _=>?_)
                clear hK K
                try simp only [zp,za,z0,zs]
                refine aG (i:=1) (o:=⟨some 38,_,_,_,_,_⟩) (by kernel_rfl) rfl (fun K hK=>?_)
                go_simp
                try dsimp only
                refine hK.out _ _ trivial (fun _=>?_)
                clear hK K
                try simp only [zp,za,z0,zs]
                refine aG (i:=2) (o:=⟨some 39,_,_,_,_,_⟩) (by kernel_rfl) rfl (fun K hK=>?_)
                go_simp
                go_at_call 35
                refine(EY.out _ jl.out.cur).mono ?_
                rintro e w5 ⟨⟨cs,rfl,hpx⟩,mK,ez⟩
                obtain⟨v0,v1,v2,v3,v4,v5,v6,v7,v8,v9,v10,v11,v12,wM,wF,wm,rfl⟩:=pz hpx
                have kZ:=qqh (jl.out.step mK ez)
                have Tx:C+1≤w5.heap.size:=Nat.le_trans hC4 ez.1
                have wS:=qqh (eO.keep (X':=xC (C+1) C (.slice Av al cv)) (show af w5 (wB w4.drew C) w5 (xC (C+1) C (.slice Av al cv)) from fun b h hl=>⟨rfl,⟨by have:=h.1;have h0:w4.drew.heap.size=w4.heap.size:=rfl;omega,h.2,N7.out b (Nat.le_of_lt h.1)⟩,hl⟩) hpx)
                have r5:=kZ.out.res.cell 0
                clear hpx mK ez
                try dsimp only
                refine hK.out _ _ trivial (fun _=>?_)
                clear hK K
                try simp only [zp,za,z0,zs]
                refine aG (i:=3) (o:=⟨some 40,_,_,_,_,_⟩) (by kernel_rfl) rfl (fun K hK=>?_)
                have gh:Below w5.heap.size w5 (w5.alloc (.cells #[v0,v1,v2,v3,v4,v5,v6,v7,v8,v9,v10,v11,v12,wM,wF,wm] 97)):=(Below.refl _ _).alloc (Nat.le_refl _) _
                have yb:=qqh (kZ.out.on gh)
                have Gt:=qqh (wS.out.keep (af.any gh))
                obtain⟨ys,gJ,eH⟩:=yb.out.own.push p Gt.out
                rw [F6]at gJ eH
                have zB:=qqh gJ
                have zK:=qqh eH
                have CS:=qqh (Rd.new w5 97 16 1 [v0,v1,v2,v3,v4,v5,v6,v7,v8,v9,v10,v11,v12,wM,wF,wm] rfl)
                have so:=qqh wS.out.one.2
                have hsz:C+1≤(w5.alloc (.cells #[v0,v1,v2,v3,v4,v5,v6,v7,v8,v9,v10,v11,v12,wM,wF,wm] 97)).heap.size:=Nat.le_trans Tx gh.size
                have r8:(w5.alloc (.cells #[v0,v1,v2,v3,v4,v5,v6,v7,v8,v9,v10,v11,v12,wM,wF,wm] 97)).cell? ⟨w.heap.size,0,none⟩=some (.slice Av al cv):=yb.out.res.cell 0
                clear gh gJ eH
                go_simp
                try dsimp only
                refine hK.out _ _ trivial (fun _=>?_)
                clear hK K
                try simp only [zp,za,z0,zs]
                refine aG (i:=4) (o:=⟨some 41,_,_,_,_,_⟩) (by kernel_rfl) rfl (fun K hK=>?_)
                refine cj _ rfl (.tmp 37) (.tmp 40) 48 rfl (C+1) 97 i0 _ 16 232 Tryz.underlying48 KO u0 z1 z2 rfl (by decide) _ _ _ rfl zB.out (w5.heap.size+1) (some ⟨w5.heap.size,0,none⟩) 1 1 [v0,v1,v2,v3,v4,v5,v6,v7,v8,v9,v10,v11,v12,wM,wF,wm] rfl CS.out so.out (by simp only [maxLen];omega) (by omega) hsz ?_
                intro v' w9 au
                obtain⟨A9,c9,ND,_⟩:=(zK.out v' w9 au).form
                rw [Uy.out]at ND
                subst ND
                have og:=qqh (yb.out.push zB.out au (zK.out _ w9 au) hsz)
                have bR:=au.below hsz zB.out
                have x9:w9.cell? ⟨w.heap.size,0,none⟩=some (.slice Av al cv):=(bR.cell (p:=⟨w.heap.size,0,none⟩) (show w.heap.size<C+1 by omega)).trans (yb.out.res.cell 0)
                have K5:ai w9 w.heap.size 48 #[.slice Av al cv]:=(bR.block w.heap.size (by omega)).trans yb.out.res
                have y9:=K5.frozen 0
                have PL:=bR.size
                clear au
                try dsimp only
                refine hK.out _ _ trivial (fun _=>?_)
                clear hK K
                try simp only [zp,za,z0,zs]
                refine aG (i:=5) (by kernel_rfl) rfl (fun K hK=>?_)
                go_simp
                try dsimp only
                refine hK.out _ _ trivial (fun _=>?_)
                clear hK K
                try simp only [Act.put,List.setIfInBounds_toArray,List.set_cons_zero,List.set_cons_succ]
                refine aJ (by kernel_rfl) ?_ _
                go_wp2_with fail
                go_meet
                exact⟨_,og.out,by simpa using Nat.le_trans hsz PL⟩
              · go_simp
                try dsimp only
                refine hK.out _ _ trivial (fun _=>?_)
                clear hK K
                try simp only [Act.put,List.setIfInBounds_toArray,List.set_cons_zero,List.set_cons_succ]
                refine gi (i:=0) (j:=2) (o:=⟨some 37,_,_,_,_,_⟩) (o2:=⟨some 39,_,_,_,_,_⟩) (by kernel_rfl) rfl rfl (fun K hK=>?_) (fun K hK=>?_)
                · go_simp
                  try dsimp only
                  refine hK.out _ _ trivial (fun _=>?_)
                  clear hK K
                  try simp only [zp,za,z0,zs]
                  refine aG (i:=2) (o:=⟨some 39,_,_,_,_,_⟩) (by kernel_rfl) rfl (fun K hK=>?_)
                  go_simp
                  go_at_call 35
                  refine(EY.out _ jl.out.cur).mono ?_
                  rintro e w5 ⟨⟨cs,rfl,hpx⟩,mK,ez⟩
                  obtain⟨v0,v1,v2,v3,v4,v5,v6,v7,v8,v9,v10,v11,v12,wM,wF,wm,rfl⟩:=pz hpx
                  have kZ:=qqh (jl.out.step mK ez)
                  have Tx:C+1≤w5.heap.size:=Nat.le_trans hC4 ez.1
                  have wS:=qqh (eO.keep (X':=xC (C+1) C (.slice Av al cv)) (show af w5 (wB w4.drew C) w5 (xC (C+1) C (.slice Av al cv)) from fun b h hl=>⟨rfl,⟨by have:=h.1;have h0:w4.drew.heap.size=w4.heap.size:=rfl;omega,h.2,N7.out b (Nat.le_of_lt h.1)⟩,hl⟩) hpx)
                  have r5:=kZ.out.res.cell 0
                  clear hpx mK ez
                  try dsimp only
                  refine hK.out _ _ trivial (fun _=>?_)
                  clear hK K
                  try simp only [zp,za,z0,zs]
                  refine aG (i:=3) (o:=⟨some 40,_,_,_,_,_⟩) (by kernel_rfl) rfl (fun K hK=>?_)
                  have gh:Below w5.heap.size w5 (w5.alloc (.cells #[v0,v1,v2,v3,v4,v5,v6,v7,v8,v9,v10,v11,v12,wM,wF,wm] 97)):=(Below.refl _ _).alloc (Nat.le_refl _) _
                  have yb:=qqh (kZ.out.on gh)
                  have Gt:=qqh (wS.out.keep (af.any gh))
                  obtain⟨ys,gJ,eH⟩:=yb.out.own.push p Gt.out
                  rw [F6]at gJ eH
                  have zB:=qqh gJ
                  have zK:=qqh eH
                  have CS:=qqh (Rd.new w5 97 16 1 [v0,v1,v2,v3,v4,v5,v6,v7,v8,v9,v10,v11,v12,wM,wF,wm] rfl)
                  have so:=qqh wS.out.one.2
                  have hsz:C+1≤(w5.alloc (.cells #[v0,v1,v2,v3,v4,v5,v6,v7,v8,v9,v10,v11,v12,wM,wF,wm] 97)).heap.size:=Nat.le_trans Tx gh.size
                  have r8:(w5.alloc (.cells #[v0,v1,v2,v3,v4,v5,v6,v7,v8,v9,v10,v11,v12,wM,wF,wm] 97)).cell? ⟨w.heap.size,0,none⟩=some (.slice Av al cv):=yb.out.res.cell 0
                  clear gh gJ eH
                  go_simp
                  try dsimp only
                  refine hK.out _ _ trivial (fun _=>?_)
                  clear hK K
                  try simp only [zp,za,z0,zs]
                  refine aG (i:=4) (o:=⟨some 41,_,_,_,_,_⟩) (by kernel_rfl) rfl (fun K hK=>?_)
                  refine cj _ rfl (.tmp 37) (.tmp 40) 48 rfl (C+1) 97 i0 _ 16 232 Tryz.underlying48 KO u0 z1 z2 rfl (by decide) _ _ _ rfl zB.out (w5.heap.size+1) (some ⟨w5.heap.size,0,none⟩) 1 1 [v0,v1,v2,v3,v4,v5,v6,v7,v8,v9,v10,v11,v12,wM,wF,wm] rfl CS.out so.out (by simp only [maxLen];omega) (by omega) hsz ?_
                  intro v' w9 au
                  obtain⟨A9,c9,ND,_⟩:=(zK.out v' w9 au).form
                  rw [Uy.out]at ND
                  subst ND
                  have og:=qqh (yb.out.push zB.out au (zK.out _ w9 au) hsz)
                  have bR:=au.below hsz zB.out
                  have x9:w9.cell? ⟨w.heap.size,0,none⟩=some (.slice Av al cv):=(bR.cell (p:=⟨w.heap.size,0,none⟩) (show w.heap.size<C+1 by omega)).trans (yb.out.res.cell 0)
                  have K5:ai w9 w.heap.size 48 #[.slice Av al cv]:=(bR.block w.heap.size (by omega)).trans yb.out.res
                  have y9:=K5.frozen 0
                  have PL:=bR.size
                  clear au
                  try dsimp only
                  refine hK.out _ _ trivial (fun _=>?_)
                  clear hK K
                  try simp only [zp,za,z0,zs]
                  refine aG (i:=5) (by kernel_rfl) rfl (fun K hK=>?_)
                  go_simp
                  try dsimp only
                  refine hK.out _ _ trivial (fun _=>?_)
                  clear hK K
                  try simp only [Act.put,List.setIfInBounds_toArray,List.set_cons_zero,List.set_cons_succ]
                  refine aJ (by kernel_rfl) ?_ _
                  go_wp2_with fail
                  go_meet
                  exact⟨_,og.out,by simpa using Nat.le_trans hsz PL⟩
                · go_simp
                  go_at_call 35
                  refine(EY.out _ jl.out.cur).mono ?_
                  rintro e w5 ⟨⟨cs,rfl,hpx⟩,mK,ez⟩
                  obtain⟨v0,v1,v2,v3,v4,v5,v6,v7,v8,v9,v10,v11,v12,wM,wF,wm,rfl⟩:=pz hpx
                  have kZ:=qqh (jl.out.step mK ez)
                  have Tx:C+1≤w5.heap.size:=Nat.le_trans hC4 ez.1
                  have wS:=qqh (eO.keep (X':=xC (C+1) C (.slice Av al cv)) (show af w5 (wB w4.drew C) w5 (xC (C+1) C (.slice Av al cv)) from fun b h hl=>⟨rfl,⟨by have:=h.1;have h0:w4.drew.heap.size=w4.heap.size:=rfl;omega,h.2,N7.out b (Nat.le_of_lt h.1)⟩,hl⟩) hpx)
                  have r5:=kZ.out.res.cell 0
                  clear hpx mK ez
                  try dsimp only
                  refine hK.out _ _ trivial (fun _=>?_)
                  clear hK K
                  try simp only [Act.put,List.setIfInBounds_toArray,List.set_cons_zero,List.set_cons_succ]
                  refine gi (i:=0) (j:=3) (o:=⟨some 37,_,_,_,_,_⟩) (o2:=⟨some 40,_,_,_,_,_⟩) (by kernel_rfl) rfl rfl (fun K hK=>?_) (fun K hK=>?_)
                  · go_simp
                    try dsimp only
                    refine hK.out _ _ trivial (fun _=>?_)
                    clear hK K
                    try simp only [zp,za,z0,zs]
                    refine aG (i:=3) (o:=⟨some 40,_,_,_,_,_⟩) (by kernel_rfl) rfl (fun K hK=>?_)
                    have gh:Below w5.heap.size w5 (w5.alloc (.cells #[v0,v1,v2,v3,v4,v5,v6,v7,v8,v9,v10,v11,v12,wM,wF,wm] 97)):=(Below.refl _ _).alloc (Nat.le_refl _) _
                    have yb:=qqh (kZ.out.on gh)
                    have Gt:=qqh (wS.out.keep (af.any gh))
                    obtain⟨ys,gJ,eH⟩:=yb.out.own.push p Gt.out
                    rw [F6]at gJ eH
                    have zB:=qqh gJ
                    have zK:=qqh eH
                    have CS:=qqh (Rd.new w5 97 16 1 [v0,v1,v2,v3,v4,v5,v6,v7,v8,v9,v10,v11,v12,wM,wF,wm] rfl)
                    have so:=qqh wS.out.one.2
                    have hsz:C+1≤(w5.alloc (.cells #[v0,v1,v2,v3,v4,v5,v6,v7,v8,v9,v10,v11,v12,wM,wF,wm] 97)).heap.size:=Nat.le_trans Tx gh.size
                    have r8:(w5.alloc (.cells #[v0,v1,v2,v3,v4,v5,v6,v7,v8,v9,v10,v11,v12,wM,wF,wm] 97)).cell? ⟨w.heap.size,0,none⟩=some (.slice Av al cv):=yb.out.res.cell 0
                    clear gh gJ eH
                    go_simp
                    try dsimp only
                    refine hK.out _ _ trivial (fun _=>?_)
                    clear hK K
                    try simp only [zp,za,z0,zs]
                    refine aG (i:=4) (o:=⟨some 41,_,_,_,_,_⟩) (by kernel_rfl) rfl (fun K hK=>?_)
                    refine cj _ rfl (.tmp 37) (.tmp 40) 48 rfl (C+1) 97 i0 _ 16 232 Tryz.underlying48 KO u0 z1 z2 rfl (by decide) _ _ _ rfl zB.out (w5.heap.size+1) (some ⟨w5.heap.size,0,none⟩) 1 1 [v0,v1,v2,v3,v4,v5,v6,v7,v8,v9,v10,v11,v12,wM,wF,wm] rfl CS.out so.out (by simp only [maxLen];omega) (by omega) hsz ?_
                    intro v' w9 au
                    obtain⟨A9,c9,ND,_⟩:=(zK.out v' w9 au).form
                    rw [Uy.out]at ND
                    subst ND
                    have og:=qqh (yb.out.push zB.out au (zK.out _ w9 au) hsz)
                    have bR:=au.below hsz zB.out
                    have x9:w9.cell? ⟨w.heap.size,0,none⟩=some (.slice Av al cv):=(bR.cell (p:=⟨w.heap.size,0,none⟩) (show w.heap.size<C+1 by omega)).trans (yb.out.res.cell 0)
                    have K5:ai w9 w.heap.size 48 #[.slice Av al cv]:=(bR.block w.heap.size (by omega)).trans yb.out.res
                    have y9:=K5.frozen 0
                    have PL:=bR.size
                    clear au
                    try dsimp only
                    refine hK.out _ _ trivial (fun _=>?_)
                    clear hK K
                    try simp only [zp,za,z0,zs]
                    refine aG (i:=5) (by kernel_rfl) rfl (fun K hK=>?_)
                    go_simp
                    try dsimp only
                    refine hK.out _ _ trivial (fun _=>?_)
                    clear hK K
                    try simp only [Act.put,List.setIfInBounds_toArray,List.set_cons_zero,List.set_cons_succ]
                    refine aJ (by kernel_rfl) ?_ _
                    go_wp2_with fail
                    go_meet
                    exact⟨_,og.out,by simpa using Nat.le_trans hsz PL⟩
                  · have gh:Below w5.heap.size w5 (w5.alloc (.cells #[v0,v1,v2,v3,v4,v5,v6,v7,v8,v9,v10,v11,v12,wM,wF,wm] 97)):=(Below.refl _ _).alloc (Nat.le_refl _) _
                    have yb:=qqh (kZ.out.on gh)
                    have Gt:=qqh (wS.out.keep (af.any gh))
                    obtain⟨ys,gJ,eH⟩:=yb.out.own.push p Gt.out
                    rw [F6]at gJ eH
                    have zB:=qqh gJ
                    have zK:=qqh eH
                    have CS:=qqh (Rd.new w5 97 16 1 [v0,v1,v2,v3,v4,v5,v6,v7,v8,v9,v10,v11,v12,wM,wF,wm] rfl)
                    have so:=qqh wS.out.one.2
                    have hsz:C+1≤(w5.alloc (.cells #[v0,v1,v2,v3,v4,v5,v6,v7,v8,v9,v10,v11,v12,wM,wF,wm] 97)).heap.size:=Nat.le_trans Tx gh.size
                    have r8:(w5.alloc (.cells #[v0,v1,v2,v3,v4,v5,v6,v7,v8,v9,v10,v11,v12,wM,wF,wm] 97)).cell? ⟨w.heap.size,0,none⟩=some (.slice Av al cv):=yb.out.res.cell 0
                    clear gh gJ eH
                    go_simp
                    try dsimp only
                    refine hK.out _ _ trivial (fun _=>?_)
                    clear hK K
                    try simp only [Act.put,List.setIfInBounds_toArray,List.set_cons_zero,List.set_cons_succ]
                    refine aG (i:=0) (o:=⟨some 37,_,_,_,_,_⟩) (by kernel_rfl) rfl (fun K hK=>?_)
                    go_simp
                    try dsimp only
                    refine hK.out _ _ trivial (fun _=>?_)
                    clear hK K
                    try simp only [zp,za,z0,zs]
                    refine aG (i:=4) (o:=⟨some 41,_,_,_,_,_⟩) (by kernel_rfl) rfl (fun K hK=>?_)
                    refine cj _ rfl (.tmp 37) (.tmp 40) 48 rfl (C+1) 97 i0 _ 16 232 Tryz.underlying48 KO u0 z1 z2 rfl (by decide) _ _ _ rfl zB.out (w5.heap.size+1) (some ⟨w5.heap.size,0,none⟩) 1 1 [v0,v1,v2,v3,v4,v5,v6,v7,v8,v9,v10,v11,v12,wM,wF,wm] rfl CS.out so.out (by simp only [maxLen];omega) (by omega) hsz ?_
                    intro v' w9 au
                    obtain⟨A9,c9,ND,_⟩:=(zK.out v' w9 au).form
                    rw [Uy.out]at ND
                    subst ND
                    have og:=qqh (yb.out.push zB.out au (zK.out _ w9 au) hsz)
                    have bR:=au.below hsz zB.out
                    have x9:w9.cell? ⟨w.heap.size,0,none⟩=some (.slice Av al cv):=(bR.cell (p:=⟨w.heap.size,0,none⟩) (show w.heap.size<C+1 by omega)).trans (yb.out.res.cell 0)
                    have K5:ai w9 w.heap.size 48 #[.slice Av al cv]:=(bR.block w.heap.size (by omega)).trans yb.out.res
                    have y9:=K5.frozen 0
                    have PL:=bR.size
                    clear au
                    try dsimp only
                    refine hK.out _ _ trivial (fun _=>?_)
                    clear hK K
                    try simp only [zp,za,z0,zs]
                    refine aG (i:=5) (by kernel_rfl) rfl (fun K hK=>?_)
                    go_simp
                    try dsimp only
                    refine hK.out _ _ trivial (fun _=>?_)
                    clear hK K
                    try simp only [Act.put,List.setIfInBounds_toArray,List.set_cons_zero,List.set_cons_succ]
                    refine aJ (by kernel_rfl) ?_ _
                    go_wp2_with fail
                    go_meet
                    exact⟨_,og.out,by simpa using Nat.le_trans hsz PL⟩
              -- ok}
            case rest=>
              obtain⟨v6,Vn,hC6⟩:=hcut
              have tN:=qqh Vn
              have afO:al<200:=by have:=HM.out;omega
              clear Vn r4
              go_wp2_with fail
              refine(rI.out _ j2 tN.out.cur).mono ?_
              rintro e w7 ⟨rfl,sI,gH⟩
              have vR:=qqh (tN.out.step sI gH)
              have hC7:C+1≤w7.heap.size:=Nat.le_trans hC6 gH.1
              clear sI gH
              obtain⟨b,hb⟩:∃ b,az L j2=b:=⟨_,rfl⟩
              have HB:=qqh hb
              rw [hb]at vR
              clear hb
              have Pj:=qqh (J0.out _ b 59 vR.out.cur (by decide))
              cases hnd:aU L b 59 with
              | error e0=>
                obtain⟨x,q⟩:=e0
                have HE:=qqh (dY.out.trans (Gg (by rw [HA.out];have:=HNG.out;omega) (by rw [F6];exact HM.out) (by rw [HA.out];exact HP.out) (by rw [HB.out];exact hnd)))
                have nw:=qqh (lK.out x q HE.out)
                have hx:=HXN.out x q HE.out
                rw [hnd]at Pj
                clear hnd
                go_wp2_with fail
                refine Pj.out.mono ?_
                rintro e w8 ⟨he,gh⟩
                unfold aY at he
                subst he
                have hr8:=(gh.2.2.2.2 _ vR.out.res.lt (by omega)).trans vR.out.res
                have Yz:=(gh.2.2.2.2 _ vR.out.flt.lt (by omega)).trans vR.out.flt
                have HR8:=qqh hr8
                have vI:=qqh Yz
                have wD:=qqh (vR.out.below.trans (gh.to vR.out.below.size (by omega)))
                clear gh hr8 Yz
                go_wp2_with fail
                refine ia _ (w.heap.size+1) w.heap.size w.heap.size x q 0 0 _ _ _ _ _ rfl rfl vI.out HR8.out (by omega) (by omega) (Nat.le_refl _) wD.out.size hx (fun W2 bu=>?_)
                rw [nw.out]
                exact⟨⟨none,0,0,rfl,gT.nil _ _,Nat.le_refl _⟩,wD.out.trans bu⟩
              | ok k=>
                have fB:=qqh (dY.out.trans (Fc (by rw [HA.out];have:=HNG.out;omega) (by rw [F6];exact HM.out) (by rw [HA.out];exact HP.out) (by rw [HB.out];exact hnd)))
                have HKB:=qqh (show k=b+1 from(gC hnd).1)
                have qs:=qqh (MR HV.out.ok (by rw [vn.out];exact han) HP.out)
                rw [hnd]at Pj
                clear hnd
                go_wp2_with fail
                refine Pj.out.mono ?_
                rintro e w8 ⟨rfl,Hu,gh⟩
                have vI:=qqh (vR.out.step Hu gh)
                have hC8:C+1≤w8.heap.size:=Nat.le_trans hC7 gh.1
                clear Hu gh
                go_wp2_with fail
                refine(rI.out _ k vI.out.cur).mono ?_
                rintro e w9 ⟨rfl,FE,bR⟩
                have og:=qqh (vI.out.step FE bR)
                have hC9:C+1≤w9.heap.size:=Nat.le_trans hC8 bR.1
                clear FE bR
                go_wp2_with fail
                have hge:a≤b:=by have h1:=qs.out.1;have h2:=dG L j2;rw [HB.out]at h2;omega
                have hkb:=HKB.out
                have hkn:=vI.out.cur.le
                refine⟨⟨f,k,acc++[p],v6,hkn,by omega,fB.out,by rw [List.length_append,F6];simp;omega,og.out,hC9⟩,?_⟩
                have e1:w9.cell? ⟨C,1,none⟩=some (.int .i64 ((az L k:Nat):Int)):=og.out.cur.blk.cell 1
                have e2:=oc.out
                have hle:=og.out.cur.le
                have aft:=dG L k
                rw [e1,e2]
                simp only [Int.toNat_natCast,List.getElem?_toArray,List.getElem?_cons_succ,List.getElem?_cons_zero]
                omega
end Go.Proofs.YthgkedoildcbcaaGreatDoor
