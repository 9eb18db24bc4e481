import Derived.Test.YtamkjeipdjbemaaGreatDoorZp31
import Derived.BigRegion
import Derived.Test.YtamkjeipdjbemaaGreatDoorZp36
import Derived.Deep.RegionWith
set_option maxHeartbeats 12800000
set_option maxRecDepth 100000
namespace Go.Proofs.YtamkjeipdjbemaaGreatDoor
open Go.RowKit
theorem IJ {n j:Nat} (h:j<n):(upTo n).drop j=(j:Int)::(upTo n).drop (j+1):=by
 refine bR ?_;unfold upTo;rw [List.getElem?_map,List.getElem?_range h];rfl
theorem KN {n:Nat}:(upTo n).drop n = []:=List.drop_of_length_le (by simp [upTo])
def Xl (w:World) (l:List az) (t:List Int) (q n:Nat) (i:Value) (wr:World):Prop :=
  ∃ j:Nat,j≤n∧i=.int .i64 j∧fC l t q=ep l t q ((upTo n).drop j)∧Below w.heap.size w wr
theorem GG (X:Nat→Prop) (l:List az) (A At:Option Addr) (n c nt ct:Nat) (t:List Int) (q:Nat) (w:World) (hn:n≤maxLen) (hR:∀ r∈l,fK r) (hl:bS (bg w X) w X 7 A n l)
    (hnt:nt≤100000) (hq:q≤nt) (ht:mg w w.heap.size At nt t) :
    Calls Tryz.prog 90 #[.slice A n c,.slice At nt ct,.int .i64 q] w fun e w'=>e=.returned (.int .i64 (fC l t q))∧Below w.heap.size w w':=by
 have aM:=qqh (show l.length=n from hl.len);have HL:=qqh hl;have HT:=qqh ht;have iT:=qqh hR;have H0:=qqh (show fC l t q=ep l t q ((upTo n).drop 0) by unfold fC;rw [aM.out];rfl);clear hl ht hR;simp only [maxLen]at hn;go_enter Tryz.func90,Tryz.ntmps90;go_wp2_with fail;go_loopw [10] (Xl w l t q n) (fun i _=>n - (intOf i).toNat);(case atStart=>exact⟨0,Nat.zero_le _,rfl,H0.out,qqb⟩);obtain⟨k,hk,rfl,aN,hb⟩:=hrel;by_cases hlt:k<n
 ·obtain⟨r,hr⟩:∃ z,l[k]? = some z:=⟨_,List.getElem?_eq_getElem (by rw [aM.out];exact hlt)⟩;have hmem:=List.mem_of_getElem? hr;obtain⟨b,off,A1,A2,A3,A4,n1,c1,n2,c2,n3,c3,n4,c4,rfl,_,cK,⟨d0,d1,d2,d3,d4,d5,d6⟩,s1,s2,s3,s4,Bd⟩:=kF (HL.out.keep (aa.any hb) (fun _ _=>bg.keep (aa.any hb))) hr;rw [IJ hlt,ep,show hereAt l t q (k:Int)=cV r t q by unfold hereAt;rw [Int.toNat_natCast,hr]]at aN;have dh:=qqh aN;have HB:=qqh hb;have HM:=qqh (Bp X r A1 A2 A3 A4 At n1 c1 n2 c2 n3 c3 n4 c4 nt ct t q wr (iT.out r hmem) s1 s2 s3 hnt hq ((Rd.below HT.out hb).more hb.size));clear aN hr hmem hb s1 s2 s3 s4 Bd;go_wp2_with fail;refine HM.out.mono ?_;rintro e w9 ⟨rfl,cA⟩;have cB:=qqh (HB.out.trans (cA.mono HB.out.size));clear cA;cases hh:cV r t q
  ·have HG:=qqh (dh.out.trans (by rw [hh,if_neg (by decide)]));clear hh;go_wp2_with fail;exact⟨⟨k+1,by omega,by go_num,HG.out,cB.out⟩,by simp [intOf];omega⟩
  have HG:=qqh (dh.out.trans (by rw [hh,if_pos rfl]));clear hh;go_wp2_with fail;go_ret;exact⟨lV HG.out.symm,cB.out⟩
 obtain rfl:k=n:=(by omega);rw [KN,ep]at aN;have HG:=qqh aN;clear aN;go_wp2_with fail;go_ret;exact⟨lV HG.out.symm,hb⟩
def jw (l:List az) (t:List Int):Int × Int:=if (bZ l).1≠0 then bZ l else (cW t,0)
theorem Fj (X:Nat→Prop) (l:List az) (A At:Option Addr) (n c nt ct:Nat) (t:List Int) (w:World) (hn:n≤maxLen) (hl:bS (bg w X) w X 7 A n l) (hnt:nt≤maxLen) (ht:mg w w.heap.size At nt t) :
    Calls Tryz.prog 89 #[.slice A n c,.slice At nt ct] w fun e w'=>e=.returned (.agg #[.int .i64 (jw l t).1,.int .i64 (jw l t).2])∧Below w.heap.size w w':=by
 have hb0:=(Below.refl w.heap.size w).alloc qql (.cells #[.int .i64 0,.int .i64 0] 34);have lX:=qqh (an.new w 34 #[.int .i64 0,.int .i64 0]);have cy:=qqh hb0;have HT:=qqh ht;obtain⟨r1,r2,hR⟩:∃ r1 r2,bZ l=(r1,r2):=⟨_,_,rfl⟩;have hW:=nE X l A n c _ hn (hl.keep (aa.any hb0) (fun _ _=>bg.keep (aa.any hb0)));rw [hR]at hW;have HW:=qqh hW;clear hb0 hW hl ht;by_cases hz:r1=0
 ·subst hz;have HP:=qqh (show jw l t=(cW t,0) by unfold jw;rw [hR];rfl);clear hR;go_enter Tryz.func89,Tryz.ntmps89;go_wp2_with fail;refine HW.out.mono ?_;rintro e w1 ⟨rfl,aP⟩;have eW:=qqh ((an.below lX.out aP lX.out.lt).alloc (.cells #[.int .i64 0,.int .i64 r2] 34));have bF:=qqh ((cy.out.trans (aP.mono cy.out.size)).alloc (by have:=cy.out.size;have:=aP.size;omega) (.cells #[.int .i64 0,.int .i64 r2] 34));have HX:=qqh (sS At nt ct t _ hnt ((Rd.below HT.out bF.out).more bF.out.size));clear aP HW lX cy;go_wp2_with fail;refine HX.out.mono ?_;rintro e w2 ⟨rfl,aX⟩;have bf:=qqh (bF.out.trans (aX.mono bF.out.size));have e0:w2.cell? ⟨w.heap.size,0,none⟩=some (.int .i64 0):=(an.below eW.out aX eW.out.lt).cell 0;have e1:w2.cell? ⟨w.heap.size,1,none⟩=some (.int .i64 0):=(an.below eW.out aX eW.out.lt).cell 1;have XK:=(an.below eW.out aX eW.out.lt).frozen 0;have Xy:=(an.below eW.out aX eW.out.lt).frozen 1;clear aX eW bF HX;go_wp2_with fail;rw [HP.out];exact bodyPost_ret (v:=.agg #[.int .i64 (cW t),.int .i64 0]) (by simp [results,Tryz.results89,go_sem,e0,e1]) rfl ⟨rfl,(bf.out.setCell (by simp) _).setCell (by simp) _⟩
 have HP:=qqh (show jw l t=(r1,r2) by unfold jw;rw [hR,if_pos hz]);clear hR;go_enter Tryz.func89,Tryz.ntmps89;go_wp2_with fail;refine HW.out.mono ?_;rintro e w1 ⟨rfl,aP⟩;have eW:=qqh ((an.below lX.out aP lX.out.lt).alloc (.cells #[.int .i64 r1,.int .i64 r2] 34));have bF:=qqh ((cy.out.trans (aP.mono cy.out.size)).alloc (by have:=cy.out.size;have:=aP.size;omega) (.cells #[.int .i64 r1,.int .i64 r2] 34));have e0:(w1.alloc (.cells #[.int .i64 r1,.int .i64 r2] 34)).cell? ⟨w.heap.size,0,none⟩=some (.int .i64 0):=eW.out.cell 0;have e1:(w1.alloc (.cells #[.int .i64 r1,.int .i64 r2] 34)).cell? ⟨w.heap.size,1,none⟩=some (.int .i64 0):=eW.out.cell 1;have XK:=eW.out.frozen 0;have Xy:=eW.out.frozen 1;clear aP HW lX cy;go_wp2_with fail;rw [HP.out];exact bodyPost_ret (v:=.agg #[.int .i64 r1,.int .i64 r2]) (by simp [results,Tryz.results89,go_sem,e0,e1]) rfl ⟨rfl,(bF.out.setCell (by simp) _).setCell (by simp) _⟩
def dX (l:List az) (t:List Int):C0 × (Int × Int):=if (jw l t).1≠0 then (gj,jw l t)else rA (dI l (8*t.length+40) [] t 0 0)
theorem wT {w:World} {X:Nat→Prop} {A:Option Addr} {n k:Nat} {xs:List Value} (h:cL w X 1 A n xs) (hk:k≤n):cL w X 1 A k (xs.take k):=by
 refine⟨by rw [List.length_take,h.1];omega,fun h0=>?_⟩;obtain⟨b,off,e,hx,hl,hc⟩:=h.2 (by omega);refine⟨b,off,e,hx,hl,fun j u hu=>hc j u ?_⟩;rw [List.getElem?_take]at hu;split at hu;exact hu;cases hu
theorem wQ {w:World} {X:Nat→Prop} {b off n k:Nat} {xs:List Value} (h:cL w X 1 (some ⟨b,off,none⟩) n xs) (hk:k≤n):cL w X 1 (some ⟨b,off+k,none⟩) (n - k) (xs.drop k):=by
 refine⟨by rw [List.length_drop,h.1];omega,fun h0=>?_⟩;obtain⟨b',off',e,hx,hl,hc⟩:=h.2 (by omega);cases e;refine⟨b,off+k,rfl,hx,hl,fun j u hu=>?_⟩;rw [List.getElem?_drop]at hu;have:=hc _ u hu;rwa [← Nat.add_assoc]at this
theorem lg (E:List Int) (k:Nat):(runeCells E).drop k=runeCells (E.drop k):=by simp [runeCells]
theorem kS (E:List Int) (k:Nat):(runeCells E).take k=runeCells (E.take k):=by simp [runeCells]
theorem ru {w:World} {base sz n:Nat} {e:TypeId} {v:Value} {xs:List Value} (h:w.ownsRow base e sz v n xs) {g:Nat} (hg:v.ownBlock=some g):∃ c,v=.slice (some ⟨g,0,none⟩) n c∧n≤c:=by
 rcases h.2 with ⟨rfl,_⟩ | ⟨g2,cap,cur,rfl,_,_,hnc,_⟩
 ·simp [Value.ownBlock]at hg
 simp only [Value.ownBlock,Option.some.injEq]at hg;subst hg;exact⟨cap,rfl,hnc⟩
theorem BW {w w':World} {base sz n:Nat} {e:TypeId} {v v':Value} {xs:List Value} (h:bh base e sz v w n xs v' w') {g:Nat} (hg:v.ownBlock=some g) (hlo:base≤g) (hs:base≤w.heap.size):∃ g' c,v'=.slice (some ⟨g',0,none⟩) n c∧n≤c∧base≤g'∧(g'=g∨g'=w.heap.size):=by
 rcases h.2.2 with h2 | h2
 ·obtain⟨c,e,hc⟩:=ru h.own (h2.trans hg);exact⟨g,c,e,hc,hlo,.inl rfl⟩
 obtain⟨c,e,hc⟩:=ru h.own h2;exact⟨_,c,e,hc,hs,.inr rfl⟩
def NV (lo M:Nat) (v:Value) (b:Nat):Prop:=lo≤b∧b≠M∧v.ownBlock≠some b
structure gK (w:World) (M:Nat) (s8:Value) (done:List Int) (nd:Nat) (b9 o9 nz:Nat) (rest:List Int) (st pt:Int) (wr:World):Prop where
  own:wr.ownsRow w.heap.size 21 1 s8 nd (runeCells done)
  rd:cL wr (NV w.heap.size M s8) 1 (some ⟨b9,o9,none⟩) nz (runeCells rest)
  out:an wr M 103 #[.slice none 0 0,.int .i64 st,.int .i64 pt]
  r4:an wr w.heap.size 103 #[.slice none 0 0,.int .i64 0,.int .i64 0]
  r5:an wr (w.heap.size+1) 34 #[.int .i64 0,.int .i64 0]
  below:Below w.heap.size w wr
  dl:done.length=nd
  ml:w.heap.size+1<M
section
variable {w wr w' : World} {M nd b9 o9 nz : Nat} {s8 : Value} {done rest : List Int} {st pt : Int}
theorem gK.rl (h:gK w M s8 done nd b9 o9 nz rest st pt wr):rest.length=nz:=by have:=h.rd.1;rw [runeCells_length]at this;omega
theorem gK.bt (h:gK w M s8 done nd b9 o9 nz rest st pt wr):∀ b,s8.ownBlock=some b→b<wr.heap.size:=fun _ hb=>(Go.Proofs.YtamkjeipdjbemaaGreatDoor.bt h.own hb).2
theorem gK.go (h:gK w M s8 done nd b9 o9 nz rest st pt wr) (hb:Below wr.heap.size wr w'):gK w M s8 done nd b9 o9 nz rest st pt w' :=
  ⟨bG h.own hb,h.rd.keep (aa.any hb),an.below h.out hb h.out.lt,an.below h.r4 hb h.r4.lt,an.below h.r5 hb h.r5.lt,h.below.trans (hb.mono h.below.size),h.dl,h.ml⟩
theorem gK.set (h:gK w M s8 done nd b9 o9 nz rest st pt wr) (i:Nat) (u:Value) {st' pt':Int} (he:(#[.slice none 0 0,.int .i64 st,.int .i64 pt]:Array Value).setIfInBounds i u = #[.slice none 0 0,.int .i64 st',.int .i64 pt']) :
    gK w M s8 done nd b9 o9 nz rest st' pt' (wr.setCell ⟨M,i,none⟩ u) :=
  ⟨bV h.own h.out (by decide),h.rd.keep (aa.setCell u (fun b hb=>hb.2.1) (fun _ hb _=>hb)),by rw [← he];exact h.out.put i u,
    (by have:=h.ml;exact(Below.heap_setCell _ _ _ _ (by simp only;omega)).trans h.r4),(by have:=h.ml;exact(Below.heap_setCell _ _ _ _ (by simp only;omega)).trans h.r5),h.below.setCell (by have:=h.ml;simp only;omega) u,h.dl,h.ml⟩
theorem gK.push (h:gK w M s8 done nd b9 o9 nz rest st pt wr) {E:List Int} {m:Nat} {v:Value} (hE:E.length=m) (af:bh w.heap.size 21 1 s8 wr (nd+m) (runeCells done++runeCells E) v w') :
    gK w M v (done++E) (nd+m) b9 o9 nz rest st pt w' :=
  ⟨by rw [cI];exact af.own,
   h.rd.keep (aa.app af (fun b hb=>hb.2.2) (fun b hb hl=>⟨hb.1,hb.2.1,by
     rcases af.2.2 with e | e
     · rw [e];exact hb.2.2
     · rw [e];intro e2;injection e2 with e2;omega⟩)),
   aZ h.out h.own (by decide) af,aZ h.r4 h.own (by decide) af,aZ h.r5 h.own (by decide) af,h.below.trans (af.below h.below.size h.own),by rw [List.length_append,h.dl,hE],h.ml⟩
theorem gK.other (h:gK w M s8 done nd b9 o9 nz rest st pt wr) {b o n:Nat} {E:List Int} (hr:cL wr (NV w.heap.size M s8) 1 (some ⟨b,o,none⟩) n (runeCells E)):gK w M s8 done nd b o n E st pt wr :=
  ⟨h.own,hr,h.out,h.r4,h.r5,h.below,h.dl,h.ml⟩
theorem gK.skip (h:gK w M s8 done nd b9 o9 nz rest st pt wr) {k:Nat} (hk:k≤nz):gK w M s8 done nd b9 (o9+k) (nz - k) (rest.drop k) st pt wr :=
  h.other (by have:=wQ h.rd hk;rwa [lg]at this)
theorem gK.LQ (h:gK w M s8 done nd b9 o9 nz rest st pt wr) {k c:Nat} (hk:k≤nz) (hc:nz≤c):gK w M s8 done nd b9 (if c=k then o9 else o9+k) (nz - k) (rest.drop k) st pt wr:=by
 by_cases e:c=k
 ·rw [if_pos e];have h0:nz - k=0:=(by omega);have hr:=h.rl;refine h.other ⟨?_,fun h1=>by omega⟩;rw [runeCells_length,List.length_drop];omega
 rw [if_neg e];exact h.skip hk
end
def TE (w:World) (l:List az) (t:List Int) (ej M:Nat) (s7 s8 s9:Value) (wr:World):Prop :=
  ∃ (done rest:List Int) (left st pt nd b9 o9 nz c9:Nat),s7=.int .i64 left∧s9=.slice (some ⟨b9,o9,none⟩) nz c9∧nz≤c9∧gK w M s8 done nd b9 o9 nz rest st pt wr∧nd+nz≤4000∧left+st=ej∧pt≤st∧dI l ej [] t 0 0=dI l left done rest st pt
theorem Mp {l:List az} {t:List Int} (h:(jw l t).1=0):(bZ l).1=0∧cW t=0:=by
 unfold jw at h;by_cases h2:(bZ l).1≠0
 ·rw [if_pos h2]at h;exact absurd h h2
 rw [if_neg h2]at h;exact⟨by omega,h⟩
theorem Pr {t:List Int} (h:cW t=0):t.length≤4000∧Runes t:=by
 unfold cW at h;by_cases h4:4000<t.length
 ·rw [if_pos h4]at h;cases h
 rw [if_neg h4]at h;refine⟨by omega,xw ?_⟩;cases hb:cj t;rfl;rw [hb]at h;cases h
def J1 (lo:Nat) (w':World) (o:C0 × (Int × Int)) (e:Ending):Prop :=
  ∃ (A:Option Addr) (n c:Nat),e=.returned (.tuple #[.agg #[.slice A n c,.int .i64 o.1.steps,.int .i64 o.1.put],.agg #[.int .i64 o.2.1,.int .i64 o.2.2]])∧cL w' (fun b=>lo≤b) 1 A n (runeCells o.1.text)∧n≤c
theorem Is (X:Nat→Prop) (l:List az) (Ar:Option Addr) (nr cr:Nat) (t:List Int) (At:Option Addr) (nt ct:Nat) (w:World) (Cp:nr≤maxLen) (hl:bS (bg w X) w X 7 Ar nr l) (hnt:nt≤maxLen) (ht:mg w w.heap.size At nt t) :
    Calls Tryz.prog 55 #[.slice Ar nr cr,.slice At nt ct] w fun e w'=>J1 w.heap.size w' (dX l t) e∧Below w.heap.size w w':=by
 obtain⟨i0,hi,Cs,z1,z2⟩:=info_parts Tryz.info21;have htl:=ht.len;have hb0:=((Below.refl w.heap.size w).alloc qql (.cells #[.slice none 0 0,.int .i64 0,.int .i64 0] 103)).alloc (by simp) (.cells #[.int .i64 0,.int .i64 0] 34);have pN:=qqh (an.alloc (an.new w 103 #[.slice none 0 0,.int .i64 0,.int .i64 0]) (.cells #[.int .i64 0,.int .i64 0] 34));have B6:=qqh (show an ((w.alloc (.cells #[.slice none 0 0,.int .i64 0,.int .i64 0] 103)).alloc (.cells #[.int .i64 0,.int .i64 0] 34)) (w.heap.size+1) 34 #[.int .i64 0,.int .i64 0] by
  have:=an.new (w.alloc (.cells #[.slice none 0 0,.int .i64 0,.int .i64 0] 103)) 34 #[.int .i64 0,.int .i64 0];simpa using this)
 have cy:=qqh hb0;have HL:=qqh (fun(W:World) (hb:Below w.heap.size w W)=>show bS (bg W X) W X 7 Ar nr l from hl.keep (aa.any hb) (fun _ _=>bg.keep (aa.any hb)));have sK:=qqh (fun(W:World) (hb:Below w.heap.size w W)=>show mg W W.heap.size At nt t from(Rd.below ht hb).more hb.size);have aM:=qqh (show l.length=nr from hl.len);clear hb0 hl ht;generalize XL:(w.alloc (.cells #[.slice none 0 0,.int .i64 0,.int .i64 0] 103)).alloc (.cells #[.int .i64 0,.int .i64 0] 34)=W0 at *;have HC:=qqh (Fj X l Ar At nr cr nt ct t W0 Cp (HL.out W0 cy.out) hnt (sK.out W0 cy.out));go_enter Tryz.func55,Tryz.ntmps55;go_wp2_with fail;clear XL;refine HC.out.mono ?_;rintro e w1 ⟨rfl,aP⟩;have sL:=qqh (an.below pN.out aP pN.out.lt);have vY:=qqh (an.below B6.out aP B6.out.lt);have bF:=qqh (cy.out.trans (aP.mono cy.out.size));clear aP HC pN B6 cy;obtain⟨r1,r2,hR⟩:∃ r1 r2,jw l t=(r1,r2):=⟨_,_,rfl⟩;have Fo:=qqh (@Mp l t);rw [hR]at Fo ⊢;have ye:=qqh (sL.out.alloc (.cells #[.int .i64 r1,.int .i64 r2] 34));have vC:=qqh (vY.out.alloc (.cells #[.int .i64 r1,.int .i64 r2] 34));have NJ:=qqh (an.new w1 34 #[.int .i64 r1,.int .i64 r2]);have bf:=qqh (bF.out.alloc bF.out.size (.cells #[.int .i64 r1,.int .i64 r2] 34));have hx1:=sL.out.lt;have hy1:=vY.out.lt;by_cases hz:r1=0
 ·subst hz;obtain⟨Mh,ht0⟩:=Fo.out rfl;have yj:=qqh (Ax Mh);have yK:=qqh (Pr ht0);have acQ:l.length≤200:=(jJ Mh).size;have RT:nt≤4000:=(by rw [← htl];exact yK.out.1);obtain⟨ej,sB⟩:∃ ej:Nat,ej=8*nt+40:=⟨_,rfl⟩;have HP:=qqh (show dX l t=rA (dI l ej [] t 0 0) by unfold dX;rw [hR,if_neg (fun h=>h rfl),sB,htl]);have Uv:ej≤32040:=(by omega);have Rq:(8:Int)*(nt:Int)+40=(ej:Int):=(by omega);clear hR Mh ht0 Fo sL vY bF NJ sB;go_upto_region 6 with fail;generalize T0:w1.alloc (.cells #[.int .i64 0,.int .i64 r2] 34)=W2 at *;have ya:w1.heap.size<W2.heap.size:=(by rw [← T0];simp);clear T0;have TH:=bf.out.alloc bf.out.size (.cells #[] 21);have Dc:=qqh (bH W2 21 1 W2.heap.size W2.heap.size rfl qql);have WQ:=qqh (sK.out _ TH);clear TH;go_wp2_with (at_builtin;refine aj _ rfl (.tmp 25) (.tmp 26) 22 rfl W2.heap.size 21 i0 _ 1 4 Tryz.underlying22 hi Cs z1 z2 rfl (by decide) _ _ _ rfl Dc.out _ At nt ct (runeCells t) rfl WQ.out (aE _) (by simp only [maxLen];omega) (by omega) (by simp) ?_);intro v9 w4 af;obtain⟨b9,c9,rfl,ES,cA,_⟩:=BW af (g:=W2.heap.size) rfl qql (by simp);have PJ:Below W2.heap.size W2 w4:=(qqb.alloc qql _).trans (af.below (by simp) Dc.out);have gl:w4.ownsRow W2.heap.size 21 1 (.slice (some ⟨b9,0,none⟩) nt c9) nt (runeCells t):=(by have:=af.own;simpa using this);have US:nt≤c9:=(by omega);have hba:=PJ.alloc PJ.size (.cells #[.slice none 0 0,.int .i64 0,.int .i64 0] 103)
  have cQ:=qqh (show gK w w4.heap.size (.slice none 0 0) [] 0 b9 0 nt t ((0:Nat):Int) ((0:Nat):Int) (w4.alloc (.cells #[.slice none 0 0,.int .i64 0,.int .i64 0] 103)) from
    ⟨World.ownsRow_nil _ _ _ _,(cL.b8 (X:=fun b=>W2.heap.size≤b) gl (fun b hb=>(bt gl hb).1)).keep (aa.alloc _ (fun b hb hlt=>⟨by have:=bf.out.size;omega,by omega,by simp [Value.ownBlock]⟩)),
     an.new _ _ _,an.below ye.out hba (by omega),an.below vC.out hba (by omega),bf.out.trans (hba.mono bf.out.size),rfl,by have:=PJ.size;omega⟩)
  clear af PJ gl hba ES Dc WQ;go_wp2_with fail;generalize hM:w4.heap.size=M at *;go_loopw [7,8,9] (TE w l t ej M) (fun s7 _ _ _=>(intOf s7).toNat);(case atStart=>exact⟨[],t,ej,0,0,0,b9,0,nt,c9,rfl,rfl,US,cQ.out,by omega,rfl,qql,rfl⟩);clear cQ hM US cA ye vC bf hx1 hy1 ya;obtain⟨done,rest,left,st,pt,nd,b9,o9,nz,c9,rfl,rfl,ES,hst,hs4,hls,hps,aN⟩:=hrel;obtain⟨Av,cv,rfl,sP⟩:=av hst.own;have ZM:=hst;have HS:=qqh hst;have eP:=hst.below;have hzw:=eP.size;have hml:=hst.ml;have hMl:=hst.out.lt;have HDL:=qqh hst.dl;have Rx:=qqh hst.rl;have dh:=qqh aN;clear aN eP ZM;by_cases hz0:nz=0
  ·subst hz0;have KZ:=qqh (show dX l t=(⟨done,st,pt⟩,(0,0)) by rw [HP.out,dh.out,show rest = [] from List.eq_nil_of_length_eq_zero Rx.out,oO];rfl);have hM:=hst.out;have hX:=hst.r4;have hY:=hst.r5;have hB:=hst.below;have hown:=hst.own;have u4:wr.cell? ⟨M,0,none⟩=some (.slice none 0 0):=hM.cell 0;have g4:=hM.frozen 0;have Ra:=hM.put 0 (.slice Av nd cv);have Co:=(Below.heap_setCell wr ⟨M,0,none⟩ (.slice Av nd cv) w.heap.size (by simp only;omega)).trans hX;have ME:=(Below.heap_setCell wr ⟨M,0,none⟩ (.slice Av nd cv) (w.heap.size+1) (by simp only;omega)).trans hY;have P6:=hB.setCell (p:=⟨M,0,none⟩) (by simp only;omega) (.slice Av nd cv);have gl:=bV (i:=0) (u:=.slice Av nd cv) hown hM (by decide);have fH:=qqh gl;have Co:an (wr.setCell ⟨M,0,none⟩ (.slice Av nd cv)) w.heap.size 103 #[.slice none 0 0,.int .i64 0,.int .i64 0]:=Co;have ME:an (wr.setCell ⟨M,0,none⟩ (.slice Av nd cv)) (w.heap.size+1) 34 #[.int .i64 0,.int .i64 0]:=ME;clear hst hM hX hY hB hown gl;go_upto_region 25 with fail;generalize hW9:wr.setCell ⟨M,0,none⟩ (.slice Av nd cv)=W9 at *;have o4:W9.cell? ⟨M,0,none⟩=some (.slice Av nd cv):=Ra.cell 0;have o5:W9.cell? ⟨M,1,none⟩=some (.int .i64 st):=Ra.cell 1;have o6:W9.cell? ⟨M,2,none⟩=some (.int .i64 pt):=Ra.cell 2;have x0:=Co.cell 0;have x1:=Co.cell 1;have x2:=Co.cell 2;have y0:=ME.cell 0;have y1:=ME.cell 1;have p0:=Co.frozen 0;have p1:=Co.frozen 1;have p2:=Co.frozen 2;have p3:=ME.frozen 0;have p4:=ME.frozen 1
   have oe:=((((P6.setCell (p:=⟨w.heap.size,0,none⟩) (by simp) (.slice Av nd cv)).setCell (p:=⟨w.heap.size,1,none⟩) (by simp) (.int .i64 st)).setCell (p:=⟨w.heap.size,2,none⟩) (by simp) (.int .i64 pt)).setCell (p:=⟨w.heap.size+1,0,none⟩) (by simp) (.int .i64 0)).setCell (p:=⟨w.heap.size+1,1,none⟩) (by simp) (.int .i64 0);have nK:=qqh oe;have q1:=bV (i:=0) (u:=.slice Av nd cv) fH.out Co (by decide);have q2:=bV (i:=1) (u:=.int .i64 st) q1 (Co.put 0 _) (by decide);have q3:=bV (i:=2) (u:=.int .i64 pt) q2 ((Co.put 0 _).put 1 _) (by decide);have hY1:=((ME.other Co (by decide) 0 (.slice Av nd cv)).other (Co.put 0 (.slice Av nd cv)) (by decide) 1 (.int .i64 st)).other ((Co.put 0 (.slice Av nd cv)).put 1 (.int .i64 st)) (by decide) 2 (.int .i64 pt);have q4:=bV (i:=0) (u:=.int .i64 0) q3 hY1 (by decide);have q5:=bV (i:=1) (u:=.int .i64 0) q4 (hY1.put 0 _) (by decide);have pR:=qqh (cL.b8 (X:=fun b=>w.heap.size≤b) q5 (fun b hb=>(bt q5 hb).1));clear Co ME Ra P6 oe u4 g4 hW9 q1 q2 q3 q4 q5 hY1;go_wp2_with fail;rw [KZ.out];exact bodyPost_ret (v:=.tuple #[.agg #[.slice Av nd cv,.int .i64 st,.int .i64 pt],.agg #[.int .i64 0,.int .i64 0]]) (by simp [results,Tryz.results55,go_sem,x0,x1,x2,y0,y1]) rfl ⟨⟨Av,nd,cv,rfl,pR.out,sP⟩,nK.out⟩
  obtain⟨z,Z',hzz⟩:∃ z Z',rest=z::Z':=by
   cases Ur:rest with
   | nil=>exfalso;have:=Rx.out;rw [Ur]at this;simp at this;omega
   | cons z Z'=>exact⟨z,Z',rfl⟩
  have KT:=qqh hzz;clear hzz;rcases Nat.eq_zero_or_pos left with Ck | Ck
  ·subst Ck;have KZ:=qqh (show dX l t=(gj,(9,0)) by rw [HP.out,dh.out,KT.out];rfl);have hX:=hst.r4;have hY:=hst.r5;have hB:=hst.below;clear hst;have x0:=hX.cell 0;have x1:=hX.cell 1;have x2:=hX.cell 2;have y0:=hY.cell 0;have y1:=hY.cell 1;have p0:=hX.frozen 0;have p1:=hX.frozen 1;have p2:=hX.frozen 2;have p3:=hY.frozen 0;have p4:=hY.frozen 1;have oe:=((((hB.setCell (p:=⟨w.heap.size,0,none⟩) (by simp) (.slice none 0 0)).setCell (p:=⟨w.heap.size,1,none⟩) (by simp) (.int .i64 0)).setCell (p:=⟨w.heap.size,2,none⟩) (by simp) (.int .i64 0)).setCell (p:=⟨w.heap.size+1,0,none⟩) (by simp) (.int .i64 9)).setCell (p:=⟨w.heap.size+1,1,none⟩) (by simp) (.int .i64 0);have nK:=qqh oe;clear hX hY hB oe;go_wp2_with fail;rw [KZ.out];exact bodyPost_ret (v:=.tuple #[.agg #[.slice none 0 0,.int .i64 0,.int .i64 0],.agg #[.int .i64 9,.int .i64 0]]) (by simp [results,Tryz.results55,go_sem,x0,x1,x2,y0,y1]) rfl ⟨⟨none,0,0,rfl,⟨rfl,fun h=>absurd h (Nat.lt_irrefl 0)⟩,qql⟩,nK.out⟩
  obtain⟨L,rfl⟩:∃ L,left=L+1:=⟨left - 1,by omega⟩;have u1:wr.cell? ⟨M,1,none⟩=some (.int .i64 st):=hst.out.cell 1;have g1:=hst.out.frozen 1;have eN:=qqh (hst.set 1 (.int .i64 ((st:Int)+1)) rfl);have hzr:wr.heap.size=(wr.setCell ⟨M,1,none⟩ (.int .i64 ((st:Int)+1))).heap.size:=(by simp);clear hst;go_upto_region 13 with fail;generalize wr.setCell ⟨M,1,none⟩ (.int .i64 ((st:Int)+1))=W1 at *;clear u1 g1;have Dc:=qqh (bH W1 21 1 W1.heap.size W1.heap.size rfl qql);have hba:=(Below.refl W1.heap.size W1).alloc qql (.cells #[] 21);have vI:=qqh hba;have gX:=qqh (Rd.b8 (eN.out.go hba).own);clear hba;go_wp2_with (at_builtin;refine aj _ rfl (.tmp 42) (.tmp 43) 22 rfl W1.heap.size 21 i0 _ 1 4 Tryz.underlying22 hi Cs z1 z2 rfl (by decide) _ _ _ rfl Dc.out _ Av nd cv (runeCells done) rfl gX.out (aE _) (by simp only [maxLen];omega) (by omega) (by simp) ?_);intro v1 w3 af;have bN:=qqh (vI.out.trans (af.below (by simp) Dc.out));have qG:=qqh af.own;have iz:=qqh (eN.out.go bN.out).rd.of;clear af Dc gX vI;go_wp2_with (at_builtin;refine aj _ rfl (.tmp 44) (.tmp 45) 22 rfl W1.heap.size 21 i0 _ 1 4 Tryz.underlying22 hi Cs z1 z2 rfl (by decide) _ _ _ rfl qG.out _ (some ⟨b9,o9,none⟩) nz c9 (runeCells rest) rfl iz.out (aE _) (by simp only [maxLen];omega) (by omega) bN.out.size ?_);intro v2 w4 af;have bW:=qqh (bN.out.trans (af.below bN.out.size qG.out));have q7:w4.ownsRow W1.heap.size 21 1 v2 (nd+nz) (runeCells (done++rest)):=(by have:=af.own;rw [cI];simpa using this);obtain⟨A4,c4,rfl,_⟩:=av q7;have xq:=qqh (eN.out.go bW.out)
  have HWH:=qqh (GG X l Ar A4 nr cr (nd+nz) c4 (done++rest) nd w4 Cp yj.out (HL.out w4 xq.out.below) (by omega) (by omega) (Rd.b8 q7));clear af q7 qG iz bN HS eN hzr;go_wp2_with fail;refine HWH.out.mono ?_;rintro e w5 ⟨rfl,eS⟩;have uB:=qqh (xq.out.go eS);clear eS xq HWH bW;have hwr:fC l (done++rest) nd=fC l (done++z::Z') done.length:=(by rw [KT.out,HDL.out]);rw [hwr];clear hwr;rcases rJ l (done++z::Z') done.length with sj | ⟨k,r,sj,hk,zH⟩
  ·have FC:=qqh (show dI l ej [] t 0 0=dI l L (done++[z]) Z' (st+1) pt by rw [dh.out,KT.out,xx sj]);obtain⟨b',o',eA,_,cK,EO⟩:=uB.out.rd.2 (by omega);cases eA;have R5:w5.cell? ⟨b9,o9,none⟩=some (.int .i32 z):=by
    have:=EO 0 (.int .i32 z) (by rw [KT.out];rfl);simpa using this
   rw [sj];have Fz:=qqh (uB.out.go (qqb.alloc qql (.cells #[.int .i32 z] 21)));have HN:=qqh (Rd.new w5 21 1 1 [.int .i32 z] rfl);have Wi:=uB.out.below.size;clear sj EO;go_wp2_with (at_builtin;refine aj _ rfl (.tmp 52) (.tmp 56) 22 rfl w.heap.size 21 i0 _ 1 4 Tryz.underlying22 hi Cs z1 z2 rfl (by decide) _ nd _ rfl Fz.out.own _ (some ⟨w5.heap.size,0,none⟩) 1 1 (runeCells [z]) rfl HN.out (aE _) (by simp only [maxLen];omega) (by omega) Fz.out.below.size ?_);intro v8 w7 af;have Oq:=qqh ((Fz.out.push (E:=[z]) rfl af).LQ (k:=1) (c:=c9) (by omega) ES);have HZD:=qqh (show rest.drop 1=Z' by rw [KT.out];rfl);clear af Fz uB HN;go_wp2_with fail;refine⟨⟨done++[z],Z',L,st+1,pt,nd+1,b9,(if c9=1 then o9 else o9+1),nz - 1,c9 - 1,by go_num,?_,by omega,?_,by omega,by omega,by omega,FC.out⟩,by simp [intOf]⟩
   ·split <;> rfl
   have:=Oq.out;rw [HZD.out]at this;exact this
  have Cj:=yj.out r (List.mem_of_getElem? hk);have Qt:=Cj.tgt.1;have BY:=Cj.cur;have SM:=(Cj.sets r.source (by simp [cC])).1;have hfit:=zV zH;obtain⟨cu,Q6⟩:∃ cu:Nat,r.ai=(cu:Int):=⟨r.ai.toNat,by omega⟩;have aa':cu≤r.target.length:=(by omega);obtain⟨tn,htn⟩:∃ tn,r.target.length=tn:=⟨_,rfl⟩;obtain⟨sn,Lk⟩:∃ sn,r.source.length=sn:=⟨_,rfl⟩;have hsz:sn≤nz:=(by have:=Rx.out;rw [KT.out]at this;omega);rw [htn]at Qt aa';rw [Lk]at SM;have Xc:=qqh (fun(hm:¬ 4000<done.length+(r.target++(z::Z').drop r.source.length).length)=>show dI l ej [] t 0 0=dI l L (done++(r.target++rest.drop sn).take cu) ((r.target++rest.drop sn).drop cu) (st+1) (pt+1) by
   rw [dh.out,KT.out,vV sj hk hm,Q6,Int.toNat_natCast,Lk])
  have HGM:=qqh (fun(hm:4000<done.length+(r.target++(z::Z').drop r.source.length).length)=>show dI l ej [] t 0 0=(gj,4) by rw [dh.out,KT.out,xD sj hk hm]);have HLL:=qqh (show done.length+(r.target++(z::Z').drop r.source.length).length=nd+(tn+(nz - sn)) by
   rw [List.length_append,List.length_drop,HDL.out,htn,Lk,← KT.out,Rx.out])
  have K2:=qqh htn;have u2:w5.cell? ⟨M,2,none⟩=some (.int .i64 pt):=uB.out.out.cell 2;have g2:=uB.out.out.frozen 2;have Fz:=qqh (uB.out.set 2 (.int .i64 ((pt:Int)+1)) rfl);rw [sj];clear sj zH Cj BY hfit;go_upto_region 18 with fail;generalize w5.setCell ⟨M,2,none⟩ (.int .i64 ((pt:Int)+1))=W6 at *;clear u2 g2 uB;have fG:=Fz.out.below;obtain⟨b,off,A1,A2,A3,A5,n1,c1,n2,c2,n3,c3,n4,Rt,rfl,_,cK,⟨d0,d1,d2,d3,d4,d5,d6⟩,q1,q2,q3,q4,Bd⟩:=kF (HL.out W6 fG) hk;have Te:k<nr:=(by have:=(List.getElem?_eq_some_iff.1 hk).1;have:=aM.out;omega);have C8:=q2.list.len;obtain rfl:n2=sn:=(by omega);have hq4:=q4.1;rw [runeCells_length]at hq4;obtain rfl:n4=tn:=(by omega);rw [Q6]at d6;have HTG:=qqh q4;generalize hcs:(#[.bool r.start,.bool r.fin,.slice A1 n1 c1,.slice A2 n2 c2,.slice A3 n3 c3,.slice A5 n4 Rt,.int .i64 (cu:Int)]:Array Value)=cs;have ng:=qqh (show cs[3]? = some (.slice A2 n2 c2)∧cs[5]? = some (.slice A5 n4 Rt)∧cs[6]? = some (.int .i64 cu) by subst hcs;exact⟨rfl,rfl,rfl⟩);have pV:=qqh (show an (W6.alloc (.cells cs 133)) W6.heap.size 133 cs from an.new _ _ _);have Oq:=qqh (Fz.out.go (qqb.alloc qql (.cells cs 133)));have Xk:=qqh (cL.of (HTG.out.keep (aa.any ((Below.refl W6.heap.size W6).alloc qql (.cells cs 133)))));have UJ:=qqh hcs;clear q1 q2 q3 q4 fG C8 hq4 hk HTG hcs;go_upto_region 19 with fail;rw [UJ.out];generalize W6.alloc (.cells cs 133)=W7 at *;clear UJ d0 d1 d2 d3 d4 d5 d6;have f3:W7.cell? ⟨W6.heap.size,3,none⟩=some (.slice A2 n2 c2):=(pV.out.cell 3).trans ng.out.1;have f5:W7.cell? ⟨W6.heap.size,5,none⟩=some (.slice A5 n4 Rt):=(pV.out.cell 5).trans ng.out.2.1
  have Dc:=qqh (show(W7.alloc (.cells #[] 21)).drew.ownsRow W7.heap.size 21 1 (.slice (some ⟨W7.heap.size,0,none⟩) 0 0) 0 [] from bH W7 21 1 W7.heap.size W7.heap.size rfl qql);have hba:=ak ((Below.refl W7.heap.size W7).alloc qql (.cells #[] 21));have vI:=qqh hba;have Ve:=qqh ((Rd.below Xk.out hba).more hba.size);clear hba;refine aC (S:=(fun w1=>w1.cell? ⟨W6.heap.size,3,none⟩=some (.slice A2 n2 c2)∧w1.cell? ⟨W6.heap.size,5,none⟩=some (.slice A5 n4 Rt))) [2,6] (by kernel_rfl) ⟨f3,f5⟩ (fun aQ=>?_);refine tq 1 69 ?_;(try simp only [zp,za,z0,zs]);refine tu 2 70 ?_;(try simp only [zp,za,z0,zs]);refine tq 4 72 ?_;(try simp only [zp,za,z0,zs]);refine tq 5 73 ?_;(try simp only [zp,za,z0,zs]);refine tu 6 74 ?_;(try simp only [zp,za,z0,zs]);refine tq 7 75 ?_;(try simp only [zp,za,z0,zs]);refine tq 8 76 ?_;(try simp only [zp,za,z0,zs]);refine ax (i:=0) (o:=⟨some 68,_,_,_,_,_⟩) (by kernel_rfl) rfl (fun K hK=>?_);go_simp;(try dsimp only);refine hK.out _ _ ?_ (fun aQ=>?_);exact⟨((an.below pV.out vI.out pV.out.lt).cell 3).trans ng.out.1,((an.below pV.out vI.out pV.out.lt).cell 5).trans ng.out.2.1⟩;clear hK K;(try simp only [zp,za,z0,zs]);refine ax (i:=3) (o:=⟨some 71,_,_,_,_,_⟩) (by kernel_rfl) rfl (fun K hK=>?_);refine aH _ rfl (.tmp 68) (.tmp 70) 22 rfl W7.heap.size 21 i0 _ 1 4 Tryz.underlying22 hi Cs z1 z2 rfl (by decide) _ _ _ rfl Dc.out _ A5 n4 Rt (runeCells r.target) rfl Ve.out (aE _) (by simp only [maxLen];omega) (by omega) vI.out.size ?_;intro v1 w8 af;have qZ:=qqh (vI.out.trans (af.below vI.out.size Dc.out));obtain⟨g1,k1,rfl,hk1,hg1,_⟩:=BW af (g:=W7.heap.size) rfl qql vI.out.size;have Jp:=qqh af.own
  have T9:=qqh (cL.of ((Oq.out.LQ (c:=c9) hsz ES).go qZ.out).rd);have HAD:=qqh (show(if c9=n2 then some (⟨b9,o9,none⟩:Addr)else some ⟨b9,o9+n2,none⟩)=some ⟨b9,if c9=n2 then o9 else o9+n2,none⟩ by split <;> rfl);clear af Dc vI;(try dsimp only);refine hK.out _ _ ?_ (fun aQ=>?_);exact⟨((an.below pV.out qZ.out pV.out.lt).cell 3).trans ng.out.1,((an.below pV.out qZ.out pV.out.lt).cell 5).trans ng.out.2.1⟩;clear hK K;(try simp only [zp,za,z0,zs]);refine aA (i:=9) (o:=⟨some 77,_,_,_,_,_⟩) (by kernel_rfl) rfl (by kernel_rfl) (fun K hK=>?_);refine aH _ rfl (.tmp 71) (.tmp 76) 22 rfl W7.heap.size 21 i0 _ 1 4 Tryz.underlying22 hi Cs z1 z2 rfl (by decide) _ _ _ rfl Jp.out _ (if c9=n2 then some ⟨b9,o9,none⟩else some ⟨b9,o9+n2,none⟩) (nz - n2) (c9 - n2) (runeCells (rest.drop n2)) rfl (by rw [HAD.out];exact T9.out) (aE _) (by simp only [maxLen];omega) (by omega) qZ.out.size ?_;intro v2 w9 af;have cB:=qqh (qZ.out.trans (af.below qZ.out.size Jp.out));obtain⟨g9,k9,rfl,E1,hg9,_⟩:=BW af (g:=g1) rfl hg1 qZ.out.size;have fH:=qqh af.own;clear af Jp T9;(try dsimp only);refine hK.out _ _ ?_;clear hK K;(try simp only [zp,za,z0,zs]);refine tq 10 9 ?_;(try simp only [zp,za,z0,zs]);refine aL (by kernel_rfl) ?_ _;go_simp;generalize (if c9=n2 then some (⟨b9,o9,none⟩:Addr)else some ⟨b9,o9+n2,none⟩)=Ask;have X7:=qqh (Oq.out.go cB.out);have gl:w9.ownsRow W7.heap.size 21 1 (.slice (some ⟨g9,0,none⟩) (n4+(nz - n2)) k9) (n4+(nz - n2)) (runeCells (r.target++rest.drop n2)):=by
   have:=fH.out;rw [cI];simpa [Nat.add_assoc] using this
  have h79:=cB.out.size;have hM7:M<W7.heap.size:=Oq.out.out.lt;have X4:=qqh (cL.b8 (X:=NV w.heap.size M (.slice Av nd cv)) gl (fun b hb=>by
   have:=(bt gl hb).1;refine⟨by have:=Oq.out.below.size;omega,by omega,fun e=>?_⟩;have:=Oq.out.bt b e;omega))
  have jo:=qqh (X7.out.other X4.out);have f6:w9.cell? ⟨W6.heap.size,6,none⟩=some (.int .i64 cu):=((an.below pV.out cB.out pV.out.lt).cell 6).trans ng.out.2.2;obtain⟨m,hm⟩:∃ m,n4+(nz - n2)=m:=⟨_,rfl⟩;rw [hm]at jo;rw [hm];have Sw:cu≤m:=(by omega);have hmk:m≤k9:=(by omega);have hmm:n4+(nz - n2)=m:=hm;have aa8:=qqh (an.below pV.out cB.out pV.out.lt);clear gl fH Oq X7 X4 cB qZ pV Xk Ve Fz f3 f5;by_cases Sv:4000<nd+m
  ·have KZ:=qqh (show dX l t=(gj,(4,0)) by rw [HP.out,HGM.out (by rw [HLL.out];omega)];rfl);have hgt:decide ((4000:Int)<(nd:Int)+(m:Int))=true:=decide_eq_true (by omega);have hX:=jo.out.r4;have hY:=jo.out.r5;have hB:=jo.out.below;have x0:=hX.cell 0;have x1:=hX.cell 1;have x2:=hX.cell 2;have y0:=hY.cell 0;have y1:=hY.cell 1;have p0:=hX.frozen 0;have p1:=hX.frozen 1;have p2:=hX.frozen 2;have p3:=hY.frozen 0;have p4:=hY.frozen 1;have oe:=((((hB.setCell (p:=⟨w.heap.size,0,none⟩) (by simp) (.slice none 0 0)).setCell (p:=⟨w.heap.size,1,none⟩) (by simp) (.int .i64 0)).setCell (p:=⟨w.heap.size,2,none⟩) (by simp) (.int .i64 0)).setCell (p:=⟨w.heap.size+1,0,none⟩) (by simp) (.int .i64 4)).setCell (p:=⟨w.heap.size+1,1,none⟩) (by simp) (.int .i64 0);have nK:=qqh oe;clear hX hY hB oe;go_wp2_with fail;rw [KZ.out];exact bodyPost_ret (v:=.tuple #[.agg #[.slice none 0 0,.int .i64 0,.int .i64 0],.agg #[.int .i64 4,.int .i64 0]]) (by simp [results,Tryz.results55,go_sem,x0,x1,x2,y0,y1]) rfl ⟨⟨none,0,0,rfl,⟨rfl,fun h=>absurd h (Nat.lt_irrefl 0)⟩,qql⟩,nK.out⟩
  have FC:=qqh (Xc.out (by rw [HLL.out];omega));have HTK:=qqh (wT jo.out.rd Sw);rw [kS]at HTK;have qg:=qqh (show((r.target++rest.drop n2).take cu).length=cu by have:=jo.out.rl;rw [List.length_take];omega);have N7:=jo.out.below.size;have hgt:decide ((4000:Int)<(nd:Int)+(m:Int))=false:=decide_eq_false (by omega);go_wp2_with (at_builtin;refine aj _ rfl (.tmp 86) (.tmp 90) 22 rfl w.heap.size 21 i0 _ 1 4 Tryz.underlying22 hi Cs z1 z2 rfl (by decide) _ nd _ rfl jo.out.own _ (some ⟨g9,0,none⟩) cu k9 (runeCells ((r.target++rest.drop n2).take cu)) rfl HTK.out.of (aE _) (by simp only [maxLen];omega) (by omega) jo.out.below.size ?_);intro v8 wa af;have KY:=qqh ((jo.out.push qg.out af).LQ (c:=k9) Sw hmk);have f6:wa.cell? ⟨W6.heap.size,6,none⟩=some (.int .i64 cu):=((aZ aa8.out jo.out.own (by decide) af).cell 6).trans ng.out.2.2;clear af jo HTK;go_wp2_with fail;refine⟨⟨_,_,L,st+1,pt+1,nd+cu,g9,(if k9=cu then 0 else 0+cu),m - cu,k9 - cu,by go_num,?_,by omega,KY.out,by omega,by omega,by omega,FC.out⟩,by simp [intOf]⟩;split <;> simp
 have HP:=qqh (show dX l t=(gj,(r1,r2)) by unfold dX;rw [hR,if_pos hz]);clear hR Fo;go_upto_region 3 with fail;have hX:=ye.out;have hY:=vC.out;have hQ:=NJ.out;have eD:=qqh bf.out;clear sL vY bF ye vC bf NJ;generalize (w1.alloc (.cells #[.int .i64 r1,.int .i64 r2] 34))=W3 at *;have x0:=hX.cell 0;have x1:=hX.cell 1;have x2:=hX.cell 2;have y0:=hY.cell 0;have y1:=hY.cell 1;have p0:=hX.frozen 0;have p1:=hX.frozen 1;have p2:=hX.frozen 2;have p3:=hY.frozen 0;have p4:=hY.frozen 1;have q0:=hQ.cell 0;have q1:=hQ.cell 1;have E4:¬ w.heap.size=w.heap.size+1:=(by omega);have FI:¬ w.heap.size=w1.heap.size:=(by omega);have WE:¬ w.heap.size+1=w1.heap.size:=(by omega);clear hX hY hQ;go_region
 all_goals
   go_wp2_with fail
   have oe:=(((((eD.out.setCell (p:=⟨w.heap.size,0,none⟩) (by simp) (.slice none 0 0)).setCell (p:=⟨w.heap.size,1,none⟩) (by simp) (.int .i64 0)).setCell (p:=⟨w.heap.size,2,none⟩) (by simp) (.int .i64 0)).setCell (p:=⟨w.heap.size+1,0,none⟩) (by simp) (.int .i64 r1)).setCell (p:=⟨w.heap.size+1,1,none⟩) (by simp) (.int .i64 r2)).drew
   rw [HP.out]
   exact bodyPost_ret (v:=.tuple #[.agg #[.slice none 0 0,.int .i64 0,.int .i64 0],.agg #[.int .i64 r1,.int .i64 r2]]) (by simp [results,Tryz.results55,go_sem,x0,x1,x2,y0,y1]) rfl ⟨⟨none,0,0,rfl,⟨rfl,fun h=>absurd h (Nat.lt_irrefl 0)⟩,qql⟩,oe⟩
theorem LW (X:Nat→Prop) (l:List az) (Ar:Option Addr) (nr cr:Nat) (t:List Int) (At:Option Addr) (nt ct:Nat) (w:World) (Cp:nr≤maxLen) (hl:bS (bg w X) w X 7 Ar nr l) (hnt:nt≤maxLen) (ht:mg w w.heap.size At nt t) :
    Calls Tryz.prog 55 #[.slice Ar nr cr,.slice At nt ct] w fun e w'=>vX w.heap.size w' (dX l t) e∧Below w.heap.size w w' :=
  (Is X l Ar nr cr t At nt ct w Cp hl hnt ht).mono fun _ _ ⟨⟨A,n,c,e,h,_⟩,hb⟩=>⟨⟨A,n,c,e,h⟩,hb⟩
def gJ (s:aR) (x:Int):Bool:=!s.only? || bB s.only x
def gW (s:aR) (pc out:List Int):List Int × (Int × Int) :=
  if pc = []then (out,(0,0))else if (allI 0 s.passes pc).2.1≠0 then ([],(allI 0 s.passes pc).2)else (out++(allI 0 s.passes pc).1,(0,0))
def mD (s:aR):List Int→List Int→List Int→List Int × (Int × Int)
  | [],pc,out=>gW s pc out
  | x::t,pc,out=>if gJ s x=true then mD s t (pc++[x]) out else if (gW s pc out).2.1≠0 then ([],(gW s pc out).2)else mD s t [] ((gW s pc out).1++[x])
def KL (s:aR) (t:List Int):List Int × (Int × Int) :=
  if (bu s).1≠0 then ([],bu s)else if cW t≠0 then ([],(cW t,0))else if (mD s t [] []).2.1≠0 then ([],(mD s t [] []).2)else if 4000<(mD s t [] []).1.length then ([],(4,(s.passes.length:Int)))else ((mD s t [] []).1,(0,0))
theorem BO {s:aR} {x:Int} {t pc out:List Int} (h:gJ s x=true):mD s (x::t) pc out=mD s t (pc++[x]) out:=by rw [mD,if_pos h]
theorem kK (s:aR) (out:List Int):gW s [] out=(out,(0,0)):=by rw [gW,if_pos rfl]
theorem DA {s:aR} {pc out x:List Int} {f:Int} (hp:pc ≠ []) (h:allI 0 s.passes pc=(x,(0,f))):gW s pc out=(out++x,(0,0)):=by
 rw [gW,if_neg hp,h,if_neg (fun h=>h rfl)]
theorem Ak {s:aR} {pc out x:List Int} {e f:Int} (hp:pc ≠ []) (h:allI 0 s.passes pc=(x,(e,f))) (he:e≠0):gW s pc out=([],(e,f)):=by
 rw [gW,if_neg hp,h,if_pos he]
theorem vu {s:aR} {x:Int} {t pc out o2:List Int} (h:gJ s x=false) (hf:gW s pc out=(o2,(0,0))):mD s (x::t) pc out=mD s t [] (o2++[x]):=by
 rw [mD,if_neg (by rw [h];decide),hf,if_neg (fun h=>h rfl)]
theorem Qo {s:aR} {t pc out:List Int} {e f:Int} (h:∀ x t',t=x::t'→gJ s x=false) (hf:gW s pc out=([],(e,f))) (he:e≠0):mD s t pc out=([],(e,f)):=by
 cases t with
 | nil=>exact hf
 | cons x t=>rw [mD,if_neg (by rw [h x t rfl];decide),hf,if_pos he]
theorem BS {s:aR} (h:(bu s).1=0) (ho:s.only? = true):aJ s.only:=by
 unfold bu at h;by_cases hz:bD s.only=0;exact oU hz;rw [if_pos ⟨ho,hz⟩]at h;exact absurd h hz
theorem uy (b o n c:Nat) (l:List Int) (w:World) (hn:n≤1000000) (hl:mg w w.heap.size (some ⟨b,o,none⟩) n l) :
    Calls Tryz.prog 20 #[.slice (some ⟨b,o,none⟩) n c] w fun e w'=>(∃ v,e=.returned v∧w'.ownsRow w.heap.size 21 1 v n (runeCells l))∧Below w.heap.size w w':=by
 obtain⟨i0,hi,z0,z1,z2⟩:=info_parts Tryz.info21;have hba:=(Below.refl w.heap.size w).alloc qql (.cells #[] 21);have vI:=qqh hba;have Dc:=qqh (bH w 21 1 w.heap.size w.heap.size rfl qql);have HL:=qqh (Rd.below hl hba);have hnil:∀ W:World,(binOp .eql 22 (.slice (some ⟨b,o,none⟩) n c) (.slice none 0 0)).run Tryz.prog W=.ok (.bool false) W:=fun _=>(by kernel_rfl);clear hba hl;go_enter Tryz.func20,Tryz.ntmps20;go_wp2_with (at_builtin;refine aj _ rfl (.tmp 5) (.tmp 6) 22 rfl w.heap.size 21 i0 _ 1 4 Tryz.underlying22 hi z0 z1 z2 rfl (by decide) _ _ _ rfl Dc.out _ (some ⟨b,o,none⟩) n c (runeCells l) rfl HL.out (aE _) (by simp only [maxLen];omega) (by omega) (by simp) ?_);intro v1 w1 af;have HO:=qqh (show w1.ownsRow w.heap.size 21 1 v1 n (runeCells l) by have:=af.own;simpa using this);have HB:=qqh (vI.out.trans (af.below (by simp) Dc.out));clear af;go_wp2_with fail;go_ret;exact⟨⟨_,rfl,HO.out⟩,HB.out⟩
def AM (lo:Nat) (w':World) (o:List Int × (Int × Int)) (e:Ending):Prop :=
  ∃ (A:Option Addr) (n c:Nat),e=.returned (.tuple #[.slice A n c,.agg #[.int .i64 o.2.1,.int .i64 o.2.2]])∧cL w' (fun b=>lo≤b) 1 A n (runeCells o.1)
structure BX (w:World) (cs:Array Value) (s8:Value) (out:List Int) (no:Nat) (wr:World):Prop where
  own:wr.ownsRow w.heap.size 21 1 s8 no (runeCells out)
  len:out.length=no
  scr:an wr w.heap.size 29 cs
  fau:an wr (w.heap.size+1) 34 #[.int .i64 0,.int .i64 0]
  below:Below w.heap.size w wr
theorem BX.go {w wr w':World} {cs:Array Value} {s8:Value} {out:List Int} {no:Nat} (h:BX w cs s8 out no wr) (hb:Below wr.heap.size wr w'):BX w cs s8 out no w' :=
  ⟨bG h.own hb,h.len,an.below h.scr hb h.scr.lt,an.below h.fau hb h.fau.lt,h.below.trans (hb.mono h.below.size)⟩
theorem BX.push {w wr w':World} {cs:Array Value} {s8 v:Value} {out E:List Int} {no m:Nat} (h:BX w cs s8 out no wr) (hE:E.length=m) (af:bh w.heap.size 21 1 s8 wr (no+m) (runeCells out++runeCells E) v w'):BX w cs v (out++E) (no+m) w' :=
  ⟨by rw [cI];exact af.own,by rw [List.length_append,h.len,hE],aZ h.scr h.own (by decide) af,aZ h.fau h.own (by decide) af,h.below.trans (af.below h.below.size h.own)⟩
def Xw (w:World) (s:aR) (t:List Int) (cs:Array Value) (nt:Nat) (s8 s9:Value) (wr:World):Prop :=
  ∃ (at_ no:Nat) (out:List Int),at_≤nt∧s9=.int .i64 at_∧no≤4001*at_∧mD s t [] [] = mD s (t.drop at_) [] out∧BX w cs s8 out no wr
def Vn (w1:World) (s:aR) (t out:List Int) (at_ nt:Nat) (i:Value) (wr:World):Prop :=
  ∃ j:Nat,at_+j≤nt∧i=.int .i64 (at_+j:Nat)∧mD s (t.drop at_) [] out=mD s (t.drop (at_+j)) ((t.drop at_).take j) out∧Below w1.heap.size w1 wr
theorem O0 {t:List Int} {at_ j:Nat} {x:Int} (h:t[at_+j]? = some x):(t.drop at_).take j++[x] =(t.drop at_).take (j+1):=by
 rw [List.take_add_one,List.getElem?_drop,h];rfl
theorem I6 {t:List Int} {at_ j nt:Nat} (h:at_+j≤nt) (ht:t.length=nt):((t.drop at_).take j).length=j:=by rw [List.length_take,List.length_drop];omega
theorem DF (X:Nat→Prop) (s:aR) (t:List Int) (A1 A2 At:Option Addr) (n1 c1 n2 c2 nt ct:Nat) (w:World) (hs:fU w X s A1 n1 A2 n2) (hnc:nt≤ct) (hnt:nt≤maxLen) (ht:mg w w.heap.size At nt t) :
    Calls Tryz.prog 7 #[.agg #[.bool s.only?,.slice A1 n1 c1,.slice A2 n2 c2],.slice At nt ct] w fun e w'=>AM w.heap.size w' (KL s t) e∧Below w.heap.size w w':=by
 obtain⟨i0,hi,z0,z1,z2⟩:=info_parts Tryz.info21;have htl:=ht.len;have hb0:=((Below.refl w.heap.size w).alloc qql (.cells #[.bool s.only?,.slice A1 n1 c1,.slice A2 n2 c2] 29)).alloc (by simp) (.cells #[.int .i64 0,.int .i64 0] 34);have pN:=qqh (an.alloc (an.new w 29 #[.bool s.only?,.slice A1 n1 c1,.slice A2 n2 c2]) (.cells #[.int .i64 0,.int .i64 0] 34));have B6:=qqh (show an ((w.alloc (.cells #[.bool s.only?,.slice A1 n1 c1,.slice A2 n2 c2] 29)).alloc (.cells #[.int .i64 0,.int .i64 0] 34)) (w.heap.size+1) 34 #[.int .i64 0,.int .i64 0] by
  have:=an.new (w.alloc (.cells #[.bool s.only?,.slice A1 n1 c1,.slice A2 n2 c2] 29)) 34 #[.int .i64 0,.int .i64 0];simpa using this)
 have cy:=qqh hb0;have KY:=qqh (fun(W:World) (hb:Below w.heap.size w W)=>show fU W X s A1 n1 A2 n2 from hs.keep (aa.any hb));have sK:=qqh (fun(W:World) (hb:Below w.heap.size w W)=>show mg W W.heap.size At nt t from(Rd.below ht hb).more hb.size);have YT:=qqh ht;have j6:=qqh (show s.passes.length=n2 from hs.pas.len);have hm2:=hs.m2;clear hb0 hs ht;go_enter Tryz.func7,Tryz.ntmps7;go_upto_region 1 with fail;generalize (w.alloc (.cells #[.bool s.only?,.slice A1 n1 c1,.slice A2 n2 c2] 29)).alloc (.cells #[.int .i64 0,.int .i64 0] 34)=W0 at *;have HW:=qqh (Ei X s A1 A2 n1 c1 n2 c2 W0 (KY.out W0 cy.out));have x0:W0.cell? ⟨w.heap.size,0,none⟩=some (.bool s.only?):=pN.out.cell 0;have x1:W0.cell? ⟨w.heap.size,1,none⟩=some (.slice A1 n1 c1):=pN.out.cell 1;have x2:W0.cell? ⟨w.heap.size,2,none⟩=some (.slice A2 n2 c2):=pN.out.cell 2;go_wp2_with fail;refine HW.out.mono ?_;rintro e w1 ⟨rfl,aP⟩;have sL:=qqh (an.below pN.out aP pN.out.lt);have vY:=qqh (an.below B6.out aP B6.out.lt);have bF:=qqh (cy.out.trans (aP.mono cy.out.size));clear aP HW pN B6 cy x0 x1 x2;obtain⟨r1,r2,hR⟩:∃ r1 r2,bu s=(r1,r2):=⟨_,_,rfl⟩;have sN:=qqh (fun(h:r1=0) (ho:s.only? = true)=>BS (s:=s) (by rw [hR];exact h) ho);have Pe:=qqh (show KL s t=if r1≠0 then ([],(r1,r2))else if cW t≠0 then ([],(cW t,0))else if (mD s t [] []).2.1≠0 then ([],(mD s t [] []).2)else if 4000<(mD s t [] []).1.length then ([],(4,(s.passes.length:Int)))else ((mD s t [] []).1,(0,0)) by unfold KL;rw [hR]);rw [hR];dsimp only;clear hR;have hw1:=vY.out.lt;have ye:=qqh (sL.out.alloc (.cells #[.int .i64 r1,.int .i64 r2] 34))
 have vC:=qqh (vY.out.alloc (.cells #[.int .i64 r1,.int .i64 r2] 34));have NJ:=qqh (an.new w1 34 #[.int .i64 r1,.int .i64 r2]);have bf:=qqh (bF.out.alloc bF.out.size (.cells #[.int .i64 r1,.int .i64 r2] 34));go_upto_region 2 with fail;clear sL vY bF;generalize T0:w1.alloc (.cells #[.int .i64 r1,.int .i64 r2] 34)=W2 at *;clear T0;have z0':=NJ.out.cell 0;have z1':=NJ.out.cell 1;by_cases hz:r1=0
 ·subst hz;have BN:=qqh (Pe.out.trans (if_neg (fun h=>h rfl)));have Qw:=qqh (vO At nt ct t W2 hnt (sK.out W2 bf.out));go_wp2_with fail;refine Qw.out.mono ?_;rintro e w3 ⟨rfl,bM⟩;have CY:=qqh (an.below ye.out bM ye.out.lt);have zD:=qqh (an.below vC.out bM vC.out.lt);have bN:=qqh (bf.out.trans (bM.mono bf.out.size));clear bM Qw ye vC bf NJ Pe z0' z1';obtain⟨tp,Ay⟩:∃ tp,cW t=tp:=⟨_,rfl⟩;have Zo:=qqh (fun(h:tp=0)=>oc (t:=t) (by rw [Ay];exact h));rw [Ay]at BN ⊢;clear Ay;by_cases hz:tp=0
  ·subst hz;have C7:=qqh (BN.out.trans (if_neg (fun h=>h rfl)));have RT:nt≤4000:=(by have:=Zo.out rfl;omega);generalize hcs:(#[.bool s.only?,.slice A1 n1 c1,.slice A2 n2 c2]:Array Value)=cs at *;have ng:=qqh (show cs[0]? = some (.bool s.only?)∧cs[1]? = some (.slice A1 n1 c1)∧cs[2]? = some (.slice A2 n2 c2) by subst hcs;exact⟨rfl,rfl,rfl⟩);have VC:=qqh (show BX w cs (.slice none 0 0) [] 0 w3 from⟨World.ownsRow_nil _ _ _ _,rfl,CY.out,zD.out,bN.out⟩);clear BN hcs CY zD bN;go_wp2_with fail;go_loopw [8,9] (Xw w s t cs nt) (fun _ s9 _=>nt - (intOf s9).toNat);(case atStart=>exact⟨0,0,[],Nat.zero_le _,rfl,qql,rfl,VC.out⟩);clear VC;obtain⟨at_,no,out,lE,rfl,hno,aN,hst⟩:=hrel;have cQ:=qqh hst;have dh:=qqh aN;obtain⟨Av,cv,rfl,_⟩:=av hst.own;have jU:=hst.below;have hzw:=jU.size;clear aN;by_cases hlt:at_<nt
   ·obtain⟨tb,OC,rfl,htb,_⟩:=YT.out.at hlt;have ae4:decide ((at_:Int)<(nt:Int))=true:=decide_eq_true (by omega);clear hst;go_wp2_with fail;go_loopw [10] (Vn wr s t out at_ nt) (fun i _=>nt - (intOf i).toNat);(case atStart=>exact⟨0,by omega,rfl,by simp,qqb⟩);obtain⟨j,hj,rfl,OR,Sm⟩:=hrel;have Od:=qqh (dh.out.trans OR);have K4:=qqh OR;have Rm:=qqh (cQ.out.go Sm);have Qv:=qqh Sm;have s0:wr.cell? ⟨w.heap.size,0,none⟩=some (.bool s.only?):=(Rm.out.scr.cell 0).trans ng.out.1;have s1:wr.cell? ⟨w.heap.size,1,none⟩=some (.slice A1 n1 c1):=(Rm.out.scr.cell 1).trans ng.out.2.1;obtain⟨en,YY⟩:∃ en,at_+j=en:=⟨_,rfl⟩;have Ic:=qqh (I6 hj htl);rw [YY]at hj Od K4 ⊢;clear OR Sm;by_cases hle:en<nt
    ·obtain⟨x,hx⟩:∃ z,t[en]? = some z:=⟨_,List.getElem?_eq_getElem (by omega)⟩;obtain⟨b',o',eA,_,cx⟩:=YT.out.at hle;cases eA;rw [show t.getD en 0=x by simp [List.getD,hx]]at cx;have dx:wr.cell? ⟨tb,OC+en,none⟩=some (.int .i32 x):=(Rm.out.below.cell (p:=⟨tb,OC+en,none⟩) htb).trans cx;have ZI:decide ((en:Int)<(nt:Int))=true:=decide_eq_true (by omega);have HDX:=qqh (bR hx);have HAS:=qqh (O0 (t:=t) (at_:=at_) (j:=j) (by rw [YY];exact hx));rw [HDX.out]at Od K4;clear hx cx;cases ho:s.only?
     ·have Ai:=qqh (show gJ s x=true by unfold gJ;rw [ho];rfl);rw [ho]at s0;have FC:=qqh (K4.out.trans (BO Ai.out));rw [HAS.out]at FC;clear ho;go_upto_region 11 with fail;go_quiet (fail);go_wp2_with fail;exact⟨⟨j+1,by omega,by go_num,by rw [← Nat.add_assoc,YY];exact FC.out,below_drewN Qv.out nq⟩,by simp [intOf];omega⟩
     have RL:=qqh (fun(W:World) (hb:Below w.heap.size w W)=>xb A1 n1 c1 s.only x W (sN.out (by trivial) ho) (cL.of (KY.out W hb).only));rw [ho]at s0;have Ai:=qqh (show gJ s x=bB s.only x by unfold gJ;rw [ho];rfl);clear ho;go_upto_region 11 with fail;go_region_with (go_at_call 18;refine(RL.out _ (ak Rm.out.below)).mono ?_;rintro e wh ⟨rfl,hbh⟩)
     all_goals
       have HBH:=qqh ((ak (Below.refl wr.heap.size wr)).trans hbh)
       clear hbh
       cases hh:bB s.only x
       · have HMF:=qqh (Ai.out.trans hh)
         have EX:=qqh (Rm.out.go HBH.out)
         clear hh
         by_cases hj0:j=0
         · have hgt:decide ((at_:Int)<(en:Int))=false:=decide_eq_false (by omega)
           have IS:=(Below.refl wh.heap.size wh).alloc qql (.cells #[.int .i32 x] 21)
           have eN:=qqh (EX.out.go IS)
           have vF:=qqh (Rd.new wh 21 1 1 [.int .i32 x] rfl)
           have dx2:wh.cell? ⟨tb,OC+en,none⟩=some (.int .i32 x):=(EX.out.below.cell (p:=⟨tb,OC+en,none⟩) htb).trans (((Rm.out.below.cell (p:=⟨tb,OC+en,none⟩) htb).symm).trans dx)
           clear IS
           go_wp2_with (at_builtin;refine aj _ rfl (.tmp 73) (.tmp 78) 22 rfl w.heap.size 21 i0 _ 1 4 Tryz.underlying22 hi z0 z1 z2 rfl (by decide) _ (no) _ rfl eN.out.own _ (some ⟨wh.heap.size,0,none⟩) 1 1 (runeCells [x]) rfl vF.out (aE _) (by simp only [maxLen];omega) (by omega) eN.out.below.size ?_)
           intro vf wf af
           have lC:=qqh (eN.out.push (E:=[x]) rfl af)
           obtain⟨Af,cf,rfl,_⟩:=av lC.out.own
           have nQ:=qqh (show mD s t [] [] = mD s (t.drop (en+1)) [] (out++[x]) from Od.out.trans (vu HMF.out (by rw [show(t.drop at_).take j = [] by rw [hj0];rfl];exact kK s out)))
           clear af eN vF
           go_wp2_with fail
           exact⟨⟨en+1,no+1,out++[x],by omega,by go_num,by omega,nQ.out,lC.out⟩,by simp [intOf];omega⟩
         · have OO:0<j:=by omega
           have hne:¬ ct=at_:=by omega
           have Zj:en - at_=j:=by omega
           have yK:=qqh (cL.Hp (X:=fun _=>True) (sK.out _ EX.out.below) qql (fun _ _=>trivial))
           have SA:=wT (wQ yK.out (show at_≤nt by omega)) (show j≤nt - at_ by omega)
           rw [lg,kS]at SA
           have x8:=qqh (uy tb (OC+at_) j (ct - at_) ((t.drop at_).take j) _ (by omega) SA.of)
           have hgt:decide ((at_:Int)<(en:Int))=true:=decide_eq_true (by omega)
           clear SA yK
           go_wp2_with fail
           refine x8.out.mono ?_
           rintro e wc ⟨⟨v,rfl,hown⟩,hbc⟩
           obtain⟨Ac,cc,rfl,_⟩:=av hown
           have yg:=qqh (EX.out.go hbc)
           have uK:=qqh (zv X (fun b=>w.heap.size≤b) s w.heap.size A1 A2 Ac n1 n2 c2 j cc ((t.drop at_).take j) wc (KY.out wc yg.out.below) ((yg.out.scr.cell 2).trans ng.out.2.2) yg.out.scr.lt (by rw [Ic.out];omega) (cL.b8 hown (fun b hb=>Nat.le_trans EX.out.below.size (bt hown hb).1)))
           have qW:=qqh (vR s.passes 0 ((t.drop at_).take j) (by rw [Ic.out];omega))
           clear hown hbc x8
           go_wp2_with fail
           refine uK.out.mono ?_
           rintro e wd ⟨⟨A4,n4,c4,rfl,Nf⟩,hb4⟩
           have hzc:=yg.out.below.size
           obtain⟨y,f1,f2,hall⟩:∃ y f1 f2,allI 0 s.passes ((t.drop at_).take j)=(y,(f1,f2)):=⟨_,_,_,rfl⟩
           have Og:=qqh hall
           rw [hall]at Nf qW ⊢
           dsimp only at Nf qW ⊢
           have hba:=(Below.refl wd.heap.size wd).alloc qql (.cells #[.int .i64 f1,.int .i64 f2] 34)
           have yt:=qqh ((yg.out.go hb4).go hba)
           have EN:=qqh (Rd.below Nf.of hba)
           have Wu:=qqh (show y.length=n4 by have:=Nf.1;rw [runeCells_length]at this;omega)
           have J0:=qqh (an.new wd 34 #[.int .i64 f1,.int .i64 f2])
           have UB:w.heap.size+1<wd.heap.size:=Nat.lt_of_lt_of_le yg.out.fau.lt hb4.size
           have zf:=qqh (show(t.drop at_).take j ≠ [] by intro e;have:=Ic.out;rw [e]at this;simp at this;omega)
           clear Nf hba hb4 uK hall
           go_upto_region 15 with fail
           generalize hWD:wd.alloc (.cells #[.int .i64 f1,.int .i64 f2] 34)=WD at *
           have abg:wd.heap.size<WD.heap.size:=J0.out.lt
           clear hWD
           have q0:=J0.out.cell 0
           have q1:=J0.out.cell 1
           by_cases hf:f1=0
           · subst hf
             have Bd:n4≤4000:=by rw [← Wu.out];exact qW.out
             have mj:=qqh (DA zf.out Og.out (out:=out))
             go_wp2_with (at_builtin;refine aj _ rfl (.tmp 66) (.tmp 67) 22 rfl w.heap.size 21 i0 _ 1 4 Tryz.underlying22 hi z0 z1 z2 rfl (by decide) _ no _ rfl yt.out.own _ A4 n4 c4 (runeCells y) rfl EN.out (aE _) (by simp only [maxLen];omega) (by omega) yt.out.below.size ?_)
             intro ve we af
             have zm:=qqh (yt.out.push Wu.out af)
             obtain⟨Ae,ce,rfl,_⟩:=av zm.out.own
             clear af yt yg EX Og zf q0 q1 J0
             have IS:=(Below.refl we.heap.size we).alloc qql (.cells #[.int .i32 x] 21)
             have eN:=qqh (zm.out.go IS)
             have vF:=qqh (Rd.new we 21 1 1 [.int .i32 x] rfl)
             have dx2:we.cell? ⟨tb,OC+en,none⟩=some (.int .i32 x):=(zm.out.below.cell (p:=⟨tb,OC+en,none⟩) htb).trans (((Rm.out.below.cell (p:=⟨tb,OC+en,none⟩) htb).symm).trans dx)
             clear IS
             go_wp2_with (at_builtin;refine aj _ rfl (.tmp 73) (.tmp 78) 22 rfl w.heap.size 21 i0 _ 1 4 Tryz.underlying22 hi z0 z1 z2 rfl (by decide) _ ((no+n4)) _ rfl eN.out.own _ (some ⟨we.heap.size,0,none⟩) 1 1 (runeCells [x]) rfl vF.out (aE _) (by simp only [maxLen];omega) (by omega) eN.out.below.size ?_)
             intro vf wf af
             have lC:=qqh (eN.out.push (E:=[x]) rfl af)
             obtain⟨Af,cf,rfl,_⟩:=av lC.out.own
             have nQ:=qqh (show mD s t [] [] = mD s (t.drop (en+1)) [] ((out++y)++[x]) from Od.out.trans (vu HMF.out mj.out))
             clear af eN vF
             go_wp2_with fail
             exact⟨⟨en+1,(no+n4)+1,(out++y)++[x],by omega,by go_num,by omega,nQ.out,lC.out⟩,by simp [intOf];omega⟩
           · have mj:=qqh (Ak zf.out Og.out hf (out:=out))
             have HG:=qqh (show KL s t=([],(f1,f2)) by rw [C7.out,Od.out,Qo (s:=s) (t:=x::t.drop (en+1)) (fun x' t' e=>by cases e;exact HMF.out) mj.out hf,if_pos hf])
             have y0:=yt.out.fau.cell 0
             have y1:=yt.out.fau.cell 1
             have g0:=yt.out.fau.frozen 0
             have g1:=yt.out.fau.frozen 1
             have E4:¬ w.heap.size+1=wd.heap.size:=by omega
             have FI:¬ wd.heap.size=w.heap.size+1:=by omega
             go_upto_region 16 with fail
             go_region
             all_goals
               go_wp2_with fail
               rw [HG.out]
               exact bodyPost_ret (v:=.tuple #[.slice none 0 0,.agg #[.int .i64 f1,.int .i64 f2]]) (by simp [results,Tryz.results7,go_sem,y0,y1]) rfl ⟨⟨none,0,0,rfl,⟨rfl,fun h=>absurd h (Nat.lt_irrefl 0)⟩⟩,((yt.out.below.setCell (by simp) _).setCell (by simp) _).drew⟩
       · have FC:=qqh (K4.out.trans (BO (Ai.out.trans hh)))
         rw [HAS.out]at FC
         clear hh
         go_wp2_with fail
         exact⟨⟨j+1,by omega,by go_num,by rw [← Nat.add_assoc,YY];exact FC.out,Qv.out.trans (HBH.out.mono Qv.out.size)⟩,by simp [intOf];omega⟩
    obtain rfl:en=nt:=(by omega);have ZI:decide ((en:Int)<(en:Int))=false:=decide_eq_false (by omega);go_upto_region 11 with fail;go_quiet (fail);have EX:=qqh (show BX w cs (.slice Av no cv) out no (wr.drewN nq) from Rm.out.go (below_drewN qqb nq));have OO:0<j:=(by omega);generalize wr.drewN nq=wh at *;have hne:¬ ct=at_:=(by omega);have Zj:en - at_=j:=(by omega);have yK:=qqh (cL.Hp (X:=fun _=>True) (sK.out _ EX.out.below) qql (fun _ _=>trivial));have SA:=wT (wQ yK.out (show at_≤en by omega)) (show j≤en - at_ by omega);rw [lg,kS]at SA;have x8:=qqh (uy tb (OC+at_) j (ct - at_) ((t.drop at_).take j) _ (by omega) SA.of);have hgt:decide ((at_:Int)<(en:Int))=true:=decide_eq_true (by omega);clear SA yK;go_wp2_with fail;refine x8.out.mono ?_;rintro e wc ⟨⟨v,rfl,hown⟩,hbc⟩;obtain⟨Ac,cc,rfl,_⟩:=av hown;have yg:=qqh (EX.out.go hbc);have uK:=qqh (zv X (fun b=>w.heap.size≤b) s w.heap.size A1 A2 Ac n1 n2 c2 j cc ((t.drop at_).take j) wc (KY.out wc yg.out.below) ((yg.out.scr.cell 2).trans ng.out.2.2) yg.out.scr.lt (by rw [Ic.out];omega) (cL.b8 hown (fun b hb=>Nat.le_trans EX.out.below.size (bt hown hb).1)));have qW:=qqh (vR s.passes 0 ((t.drop at_).take j) (by rw [Ic.out];omega));clear hown hbc x8;go_wp2_with fail;refine uK.out.mono ?_;rintro e wd ⟨⟨A4,n4,c4,rfl,Nf⟩,hb4⟩;have hzc:=yg.out.below.size;obtain⟨y,f1,f2,hall⟩:∃ y f1 f2,allI 0 s.passes ((t.drop at_).take j)=(y,(f1,f2)):=⟨_,_,_,rfl⟩;have Og:=qqh hall;rw [hall]at Nf qW ⊢;dsimp only at Nf qW ⊢;have hba:=(Below.refl wd.heap.size wd).alloc qql (.cells #[.int .i64 f1,.int .i64 f2] 34);have yt:=qqh ((yg.out.go hb4).go hba);have EN:=qqh (Rd.below Nf.of hba)
    have Wu:=qqh (show y.length=n4 by have:=Nf.1;rw [runeCells_length]at this;omega);have J0:=qqh (an.new wd 34 #[.int .i64 f1,.int .i64 f2]);have UB:w.heap.size+1<wd.heap.size:=Nat.lt_of_lt_of_le yg.out.fau.lt hb4.size;have zf:=qqh (show(t.drop at_).take j ≠ [] by intro e;have:=Ic.out;rw [e]at this;simp at this;omega);clear Nf hba hb4 uK hall;go_upto_region 15 with fail;generalize hWD:wd.alloc (.cells #[.int .i64 f1,.int .i64 f2] 34)=WD at *;have abg:wd.heap.size<WD.heap.size:=J0.out.lt;clear hWD;have q0:=J0.out.cell 0;have q1:=J0.out.cell 1;by_cases hf:f1=0
    ·subst hf;have Bd:n4≤4000:=(by rw [← Wu.out];exact qW.out);have mj:=qqh (DA zf.out Og.out (out:=out));go_wp2_with (at_builtin;refine aj _ rfl (.tmp 66) (.tmp 67) 22 rfl w.heap.size 21 i0 _ 1 4 Tryz.underlying22 hi z0 z1 z2 rfl (by decide) _ no _ rfl yt.out.own _ A4 n4 c4 (runeCells y) rfl EN.out (aE _) (by simp only [maxLen];omega) (by omega) yt.out.below.size ?_);intro ve we af;have zm:=qqh (yt.out.push Wu.out af);obtain⟨Ae,ce,rfl,_⟩:=av zm.out.own;clear af yt yg EX Og zf q0 q1 J0;have O6:mD s t [] [] = mD s (t.drop en) [] (out++y):=by
      rw [Od.out,List.drop_of_length_le (by omega),mD,mD,mj.out,kK]
     have nQ:=qqh O6;clear O6;go_wp2_with fail;exact⟨⟨en,no+n4,out++y,qql,rfl,by omega,nQ.out,zm.out⟩,by simp [intOf];omega⟩
    have mj:=qqh (Ak zf.out Og.out hf (out:=out));have HG:=qqh (show KL s t=([],(f1,f2)) by rw [C7.out,Od.out,List.drop_of_length_le (by omega),mD,mj.out,if_pos hf]);have y0:=yt.out.fau.cell 0;have y1:=yt.out.fau.cell 1;have g0:=yt.out.fau.frozen 0;have g1:=yt.out.fau.frozen 1;have E4:¬ w.heap.size+1=wd.heap.size:=(by omega);have FI:¬ wd.heap.size=w.heap.size+1:=(by omega);go_upto_region 16 with fail;go_region
    all_goals
      go_wp2_with fail
      rw [HG.out]
      exact bodyPost_ret (v:=.tuple #[.slice none 0 0,.agg #[.int .i64 f1,.int .i64 f2]]) (by simp [results,Tryz.results7,go_sem,y0,y1]) rfl ⟨⟨none,0,0,rfl,⟨rfl,fun h=>absurd h (Nat.lt_irrefl 0)⟩⟩,((yt.out.below.setCell (by simp) _).setCell (by simp) _).drew⟩
   obtain rfl:at_=nt:=(by omega);have VU:=qqh (show mD s t [] [] =(out,(0,0)) by rw [dh.out,List.drop_of_length_le (by omega),mD,kK]);have hlen:=cQ.out.len;by_cases h4:4000<no
   ·have HG:=qqh (show KL s t=([],(4,(n2:Int))) by rw [C7.out,VU.out,if_neg (fun h=>h rfl),if_pos (by rw [hlen];exact h4),j6.out]);have d2:wr.cell? ⟨w.heap.size,2,none⟩=some (.slice A2 n2 c2):=(hst.scr.cell 2).trans ng.out.2.2;have y0:=hst.fau.cell 0;have y1:=hst.fau.cell 1;have g0:=hst.fau.frozen 0;have g1:=hst.fau.frozen 1;have hne:¬ w.heap.size=w.heap.size+1:=(by omega);clear hst;go_upto_region 23 with fail;go_region
    all_goals
      go_wp2_with fail
      rw [HG.out]
      exact bodyPost_ret (v:=.tuple #[.slice none 0 0,.agg #[.int .i64 4,.int .i64 n2]]) (by simp [results,Tryz.results7,go_sem,y0,y1]) rfl ⟨⟨none,0,0,rfl,⟨rfl,fun h=>absurd h (Nat.lt_irrefl 0)⟩⟩,((cQ.out.below.setCell (by simp) _).setCell (by simp) _).drew⟩
   have HG:=qqh (show KL s t=(out,(0,0)) by rw [C7.out,VU.out,if_neg (fun h=>h rfl),if_neg (by rw [hlen];exact h4)]);have y0:=hst.fau.cell 0;have y1:=hst.fau.cell 1;have g0:=hst.fau.frozen 0;have g1:=hst.fau.frozen 1;have q1:=bV (i:=0) (u:=.int .i64 0) hst.own hst.fau (by decide);have q2:=bV (i:=1) (u:=.int .i64 0) q1 (hst.fau.put 0 _) (by decide);have pR:=qqh (cL.b8 (X:=fun b=>w.heap.size≤b) q2 (fun b hb=>(bt q2 hb).1));clear hst q1 q2;go_wp2_with fail;rw [HG.out];exact bodyPost_ret (v:=.tuple #[.slice Av no cv,.agg #[.int .i64 0,.int .i64 0]]) (by simp [results,Tryz.results7,go_sem,y0,y1]) rfl ⟨⟨Av,no,cv,rfl,pR.out⟩,(cQ.out.below.setCell (by simp) _).setCell (by simp) _⟩
  have HG:=qqh (BN.out.trans (if_pos hz));have y0:=zD.out.cell 0;have y1:=zD.out.cell 1;have g0:=zD.out.frozen 0;have g1:=zD.out.frozen 1;go_wp2_with fail;rw [HG.out];exact bodyPost_ret (v:=.tuple #[.slice none 0 0,.agg #[.int .i64 tp,.int .i64 0]]) (by simp [results,Tryz.results7,go_sem,y0,y1]) rfl ⟨⟨none,0,0,rfl,⟨rfl,fun h=>absurd h (Nat.lt_irrefl 0)⟩⟩,(bN.out.setCell (by simp) _).setCell (by simp) _⟩
 have HG:=qqh (Pe.out.trans (if_pos hz));have y0:=vC.out.cell 0;have y1:=vC.out.cell 1;have g0:=vC.out.frozen 0;have g1:=vC.out.frozen 1;have E4:¬ w.heap.size+1=w1.heap.size:=(by omega);have FI:¬ w1.heap.size=w.heap.size+1:=(by omega);go_upto_region 3 with fail;go_region
 all_goals
   go_wp2_with fail
   rw [HG.out]
   exact bodyPost_ret (v:=.tuple #[.slice none 0 0,.agg #[.int .i64 r1,.int .i64 r2]]) (by simp [results,Tryz.results7,go_sem,y0,y1]) rfl ⟨⟨none,0,0,rfl,⟨rfl,fun h=>absurd h (Nat.lt_irrefl 0)⟩⟩,((bf.out.setCell (by simp) _).setCell (by simp) _).drew⟩
end Go.Proofs.YtamkjeipdjbemaaGreatDoor
